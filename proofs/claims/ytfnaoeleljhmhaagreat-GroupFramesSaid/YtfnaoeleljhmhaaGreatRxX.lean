/- A reflective symbolic executor, part 24: code. -/
import Derived.Test.YtfnaoeleljhmhaaGreatRxW
import Derived.LoopNIn

namespace Go.RX
section
variable {P:Program} {C:Ctx} {Post:Value→List HP→Prop} {Fs:List HP} {w0:World}
structure Stk (ρ:Env) (k:List KI) (ro:Option Nat):Prop where
 rf: ∀l r fn nt fr ps x y fd,KI.rf l r fn nt fr ps x y fd∈k→∃ρ0 c0,Lens ρ0 c0∧Env.Le ρ0 ρ∧frSc c0 fr=true∧r<c0.r∧(ρ0.lr.getD r loop0).params=ps∧(ρ0.lr.getD r loop0).assign=x∧
  (ρ0.lr.getD r loop0).body=y∧HA fr ⟨nt.n,[]⟩ ρ0 {tmps:=(ρ0.lr.getD r loop0).tmps,defers:=[]}
 ro:match around k with
  | none=>ro=none
  | some l=> ∃ρ0 c0,Lens ρ0 c0∧Env.Le ρ0 ρ∧l<c0.b∧ro=some (ρ0.bv.getD l 0)
theorem Stk.le{ρ ρ':Env}{k:List KI}{ro:Option Nat}(h:Stk ρ k ro)(hle:Env.Le ρ ρ'):Stk ρ' k ro:=by
 refine⟨fun l r fn nt fr ps x y fd hm=>?_,?_⟩
 ·obtain⟨ρ0,c0,h1,h2,h3⟩:=h.rf l r fn nt fr ps x y fd hm;exact⟨ρ0,c0,h1,h2.trans hle,h3⟩
 ·have:=h.ro;split at this
  ·exact this
  ·obtain⟨ρ0,c0,h1,h2,h3⟩:=this;exact⟨ρ0,c0,h1,h2.trans hle,h3⟩
def KI.inner:KI→Bool
 | .code _=>true
 | .ops .. =>true
 | .dops .. =>true
 | .dret .. =>true
 | .blk _=>true
 | .again _=>true
 | .loop .. =>true
 | .jn .. =>true
 | .gh _=>true
 | _=>false
theorem Stk.push{ρ:Env}{k:List KI}{ro:Option Nat}(h:Stk ρ k ro){x:KI}(hx:x.inner=true):Stk ρ (x::k) ro:=by
 have ha:around (x::k)=around k:=by cases x<;>first | rfl | (simp [KI.inner]at hx;done)
 refine⟨fun l r fn nt fr ps a b fd hm=>?_,by rw [ha];exact h.ro⟩;rcases List.mem_cons.1 hm with rfl | hm
 ·simp [KI.inner]at hx
 ·exact h.rf l r fn nt fr ps a b fd hm
def SoundC(P:Program)(C:Ctx)(Post:Value→List HP→Prop)(Fs:List HP)(w0:World)(n:Nat):Prop:=
 ∀ro c k st ρ L a w,VC P Post (run C n (.code c::k) st) ρ L→HW Fs w0 st ρ w→HA st.fr st.nt ρ a→Stk ρ k ro→c.wpIn (FW ro) 0 P (QK P C Post Fs w0 n k ρ L) a w
def SoundO(P:Program)(C:Ctx)(Post:Value→List HP→Prop)(Fs:List HP)(w0:World)(n:Nat):Prop:=
 ∀ro all r k st ρ L a w,VC P Post (run C n (.ops all r::k) st) ρ L→HW Fs w0 st ρ w→HA st.fr st.nt ρ a→Stk ρ k ro→wpListIn (FW ro) 0 P all (QK P C Post Fs w0 n k ρ L) r a w
def SoundD(P:Program)(C:Ctx)(Post:Value→List HP→Prop)(Fs:List HP)(w0:World)(n:Nat):Prop:=
 ∀ro id all pm k st ρ L a w,VC P Post (run C n (.dops all pm (List.range all.size) 0 []::k) st) ρ L→orderedB all pm=true→pmOk all pm=true→HW Fs w0 st ρ w→HA st.fr st.nt ρ a→Stk ρ k ro→
  (Code.region id all true).wpIn (FW ro) 0 P (QK P C Post Fs w0 n k ρ L) a w
def SoundR(P:Program)(C:Ctx)(Post:Value→List HP→Prop)(Fs:List HP)(w0:World)(n:Nat):Prop:=
 ∀ro g ps x y k st ρ L a w,VC P Post (run C n (.code (.rangeFunc g ps x y)::k) st) ρ L→HW Fs w0 st ρ w→HA st.fr st.nt ρ a→Stk ρ k ro→
  (Code.rangeFunc g ps x y).wpIn (FW ro) 0 P (QK P C Post Fs w0 n k ρ L) a w
theorem QK.here{n m:Nat}{k k':List KI}{ρ:Env}{L:Nat→LC}{e:Exit}{a:Act}{w:World}{st:St}(hm:m<n)(hk:resume e k=some k')
  (hv:VC P Post (run C m k' st) ρ L) (hw:HW Fs w0 st ρ w) (ha:HA st.fr st.nt ρ a):QK P C Post Fs w0 n k ρ L e a w:=
 ⟨k',hk,m,hm,st,ρ,L,Env.Le.refl _,fun _ _=>rfl,hw,ha,hv⟩
theorem HW.know{st:St}{ρ:Env}{w:World}(h:HW Fs w0 st ρ w){b:BE}(hb:b.prop ρ)(hs:b.sc st.cnt=true):HW Fs w0 {st with known:=b::st.known} ρ w:=
 ⟨h.lens,h.scf,h.sch,by rw [List.all_cons,hs,h.sck];rfl,fun x hx=>(List.mem_cons.1 hx).elim (fun e=>e▸hb) (h.kn x),h.own,h.same,h.scd⟩
theorem bNot_sc{c:Cnt}{b:BE}(h:b.sc c=true):(bNot b).sc c=true:=by
 unfold bNot;split
 ·rfl
 ·exact h
 ·exact h
theorem Lens.le{ρ ρ':Env}{c d:Cnt}(h:Lens ρ c)(h':Lens ρ' d)(hle:Env.Le ρ ρ'):c.le d:=by
 obtain⟨x,rfl⟩:=hle;constructor
 ·rw [←h.b,←h'.b];simp [Env.ext]
 ·rw [←h.v,←h'.v];simp [Env.ext]
 ·rw [←h.i,←h'.i];simp [Env.ext]
 ·rw [←h.a,←h'.a];simp [Env.ext]
 ·rw [←h.bo,←h'.bo];simp [Env.ext]
 ·rw [←h.p,←h'.p];simp [Env.ext]
 ·rw [←h.r,←h'.r];simp [Env.ext]
theorem look_append{x y:List (Nat×SV)}{s:Nat}{v:SV}(h:look (x++y) s=some v):look x s=some v∨look y s=some v:=by
 induction x with
 | nil=>exact .inr h
 | cons t r ih=>
  obtain⟨q,u⟩:=t;have h':(if q==s then some u else look (r++y) s)=some v:=h;show(if q==s then some u else look r s)=some v∨look y s=some v;by_cases hq:(q==s)=true
  ·rw [if_pos hq]at h' ⊢;exact .inl h'
  ·rw [if_neg hq]at h' ⊢;exact ih h'
theorem look_of_filter{x:List (Nat×SV)}{f:Nat→Bool}{s:Nat}{v:SV}(h:look (x.filter fun y=>f y.1) s=some v):look x s=some v:=by
 induction x with
 | nil=>cases h
 | cons t r ih=>
  obtain⟨q,u⟩:=t;by_cases hf:f q=true
  ·rw [List.filter_cons_of_pos (by exact hf)]at h;unfold look at h ⊢;split at h
   ·rename_i hq;simp only [hq,if_true];exact h
   ·rename_i hq;simp only [hq];exact ih h
  ·rw [List.filter_cons_of_neg (by exact hf)]at h;have:=ih h;unfold look;split
   ·rename_i hq;rw [beq_iff_eq]at hq;subst hq;exfalso;apply hf;clear ih this
    induction r with
    | nil=>cases h
    | cons t' r' ih'=>
     obtain⟨q',u'⟩:=t';by_cases hf':f q'=true
     ·rw [List.filter_cons_of_pos (by exact hf')]at h;unfold look at h;split at h
      ·rename_i hq';rw [beq_iff_eq]at hq';subst hq';exact hf'
      ·exact ih' h
     ·rw [List.filter_cons_of_neg (by exact hf')]at h;exact ih' h
   ·exact this
theorem Agree.trans{c:Cnt}{a b d:Env}(h:Agree c a b)(k:Agree c b d):Agree c a d:=
 ⟨fun i hi=>(h.b i hi).trans (k.b i hi),fun i hi=>(h.v i hi).trans (k.v i hi),fun i hi=>(h.i i hi).trans (k.i i hi),fun i hi=>(h.a i hi).trans (k.a i hi),fun i hi=>(h.bo i hi).trans (k.bo i hi),fun i hi=>(h.p i hi).trans (k.p i hi),fun i hi=>(h.r i hi).trans (k.r i hi),h.va.trans k.va⟩
theorem Owns.front{a b Fs:List HP}{w:World}(h:Owns (a++b++Fs) w):Owns (a++Fs) w:=by
 refine h.pick' (fun j=>if j<a.length then some j else some (j+b.length)) ?_ ?_
 ·intro j x hx;right;by_cases h1:j<a.length
  ·refine⟨j,by simp [h1],?_⟩;rw [List.getElem?_append_left h1]at hx;rw [List.append_assoc,List.getElem?_append_left h1];exact hx
  ·refine⟨j+b.length,by simp [h1],?_⟩;rw [List.getElem?_append_right (by omega)]at hx;rw [List.getElem?_append_right (by simp;omega),List.length_append,show j+b.length - (a.length+b.length)=j - a.length by omega];exact hx
 ·intro j j' i hj hj' _ _;split at hj<;>split at hj'<;>simp only [Option.some.injEq]at hj hj'<;>omega
theorem unifyMK_sound{ρ ρ':Env}: ∀{x y:List MK} {l:List Eq2},unifyMK x y=some l→Hold ρ ρ' l→marks ρ x=marks ρ' y
 | [],[],l,_,_=>rfl
 | .one b::r,.one b'::r',l,h,hl=>by
  simp only [unifyMK,Option.map_eq_some_iff]at h;obtain⟨z,hz,rfl⟩:=h;have h1:=hl _ List.mem_cons_self;simp only [Eq2.holds]at h1;have h2:=unifyMK_sound hz fun x hx=>hl x (List.mem_cons_of_mem _ hx)
  simp only [marks,List.flatMap_cons,List.map_append,MK.blocks,h1]at h2 ⊢;rw [h2]
 | .many b::r,.many b'::r',l,h,hl=>by
  simp only [unifyMK,Option.map_eq_some_iff]at h;obtain⟨z,hz,rfl⟩:=h;have h1:=hl _ List.mem_cons_self;simp only [Eq2.holds]at h1;have h2:=unifyMK_sound hz fun x hx=>hl x (List.mem_cons_of_mem _ hx)
  simp only [marks,List.flatMap_cons,List.map_append,MK.blocks,h1]at h2 ⊢;rw [h2]
 | [],.one _::_,_,h,_=>by cases h
 | [],.many _::_,_,h,_=>by cases h
 | .one _::_,[],_,h,_=>by cases h
 | .many _::_,[],_,h,_=>by cases h
 | .one _::_,.many _::_,_,h,_=>by cases h
 | .many _::_,.one _::_,_,h,_=>by cases h
theorem pattern_holds2{st:St}{ρ ρ1 ρ2:Env}{a:Act}{w:World}{c0:Cnt}{fr':List (Nat×SV)}{hp':List Ck}{x y z:List Eq2}{nt nt':NT}
  (hw:HW Fs w0 st ρ w) (ha:HA st.fr nt ρ a) (h1:Lens ρ1 c0) (hle:Env.Le ρ1 ρ) (hle2:Env.Le ρ1 ρ2)
  (hx:unifyFr fr' st.fr=some x) (hy:unifyHp hp' st.hp=some y) (hz:unifyMK nt'.ds nt.ds=some z) (hn:nt'.n=nt.n) (hh:Hold ρ2 ρ ((x++y++z).filter fun q=> !q.trivial c0)):
  HA fr' nt' ρ2 a∧Owns (hp'.map (Ck.den ρ2)++Fs) w:=by
 have hag:Agree c0 ρ2 ρ:=(Env.Le.agree h1 hle2).symm.trans (Env.Le.agree h1 hle);obtain⟨k12,k3⟩:=(Hold.all hag hh).app;obtain⟨k1,k2⟩:=k12.app;refine⟨⟨ha.defers.trans (unifyMK_sound hz k3).symm,hn▸ha.size,fun s v hs=>?_⟩,?_⟩
 ·obtain⟨v',hv',he⟩:=unifyFr_sound hx k1 s v hs;rw [ha.slots s v' hv',he]
 ·obtain⟨more,hm⟩:=unifyHp_sound hag.va hy k2;have:=hw.own;rw [hm]at this;exact this.front
theorem loop_head2{st1:St}{ρ1:Env}{w:World}{inc:Cnt}{e:Ext}{slots:List (Nat×SV)}{f:Nat→Bool}{hp':List Ck}{nt':NT}
  (h1:Lens ρ1 st1.cnt) (he:e.Fits inc) (hs1:frSc (st1.cnt.add inc) slots=true) (hs2:hp'.all (Ck.sc (st1.cnt.add inc))=true) (hs3:frSc st1.cnt st1.fr=true)
  (hds:nt'.ds.all (MK.sc (st1.cnt.add inc))=true) (hsame:Same w0 w) (own:Owns (hp'.map (Ck.den (ρ1.ext e))++Fs) w):
  HW Fs w0 {st1 with fr:=slots++st1.fr.filter (fun x=>f x.1),hp:=hp',cnt:=st1.cnt.add inc,known:=[],nt:=nt'} (ρ1.ext e) w:=by
 refine⟨h1.ext he,?_,hs2,rfl,fun b hb=>(by cases hb),own,hsame,hds⟩;simp only [frSc,List.all_append,Bool.and_eq_true];refine⟨hs1,List.all_eq_true.2 fun x hx=>?_⟩;exact SV.sc_mono (Cnt.le_add _ _) (List.all_eq_true.1 hs3 x (List.mem_filter.1 hx).1)
theorem replL_all{α:Type}(p:α→Bool)(e:α)(he:p e=true): ∀(use:List Nat) (hp new:List α),hp.all p=true→new.all p=true→(replL e hp use new).all p=true
 | [],hp,new,h1,h2=>by simp only [replL,List.all_append,h1,h2,Bool.and_self]
 | i::r,hp,c::cs,h1,h2=>by
  simp only [List.all_cons,Bool.and_eq_true]at h2;refine replL_all p e he r _ _ (List.all_eq_true.2 fun x hx=>?_) h2.2;rcases List.mem_or_eq_of_mem_set hx with hx | rfl
  ·exact List.all_eq_true.1 h1 x hx
  ·exact h2.1
 | i::r,hp,[],h1,h2=>by
  refine replL_all p e he r _ _ (List.all_eq_true.2 fun x hx=>?_) h2;rcases List.mem_or_eq_of_mem_set hx with hx | rfl
  ·exact List.all_eq_true.1 h1 x hx
  ·exact he
theorem At.gh{n:Nat}{g:St→Option GhostStep}{k:List KI}{ρ:Env}{L:Nat→LC}{a:Act}{w:World}(h:At P C Post Fs w0 n (.gh g::k) ρ L a w):At P C Post Fs w0 n k ρ L a w:=by
 obtain⟨m,hm,st,ρ',L',h1,h2,h3,h4,h5⟩:=h
 induction m generalizing st with
 | zero=>exact h5.elim
 | succ m ih=>
  simp only [run]at h5;split at h5
  ·exact⟨m,by omega,st,ρ',L',h1,h2,h3,h4,h5⟩
  ·rename_i s hs;split at h5
   ·rename_i b hb;split at h5
    case isFalse=>exact h5.elim
    rename_i hsc;simp only [VC,Fork]at h5;cases hd:b.den ρ' with
    | true=>
     have hp:=(BE.den_iff ρ' b).1 hd;exact ih (by omega) _ (h3.know hp hsc) h4 (h5.1 hp)
    | false=>
     have hp: ¬b.prop ρ':=fun h=>by rw [←BE.den_iff,hd]at h;cases h
     have hp':(bNot b).prop ρ':=by rw [←BE.den_iff,bNot_den,hd];rfl
     exact ih (by omega) _ (h3.know hp' (bNot_sc hsc)) h4 (h5.2 hp)
   rename_i hsp;split at h5
   ·rename_i idx hidx;split at h5
    case isFalse=>exact h5.elim
    rename_i hc;rw [Bool.and_eq_true,decide_eq_true_eq]at hc;obtain⟨hlt,hnd⟩:=hc;have hlt: ∀i∈idx,i<st.hp.length:=fun i hi=>by simpa [Nat.blt_eq] using List.all_eq_true.1 hlt i hi
    refine⟨m,by omega,{st with hp:=idx.map fun i=>st.hp.getD i .emp},ρ',L',h1,h2,⟨h3.lens,h3.scf,?_,h3.sck,h3.kn,?_,h3.same,h3.scd⟩,h4,h5⟩
    ·refine List.all_eq_true.2 fun x hx=>?_
     obtain⟨i,hi,rfl⟩:=List.mem_map.1 hx;have hl:=hlt i hi;rw [List.getD_eq_getElem?_getD,List.getElem?_eq_getElem hl];exact List.all_eq_true.1 h3.sch _ (List.getElem_mem hl)
    ·refine h3.own.pick (idx++(List.range Fs.length).map (st.hp.length+ ·)) _ ?_ ?_
     ·refine List.nodup_append.2 ⟨hnd,?_,?_⟩
      ·exact List.Pairwise.map _ (fun a b h=>by omega) List.nodup_range
      ·intro x hx y hy;have:=hlt x hx;obtain⟨q,_,rfl⟩:=List.mem_map.1 hy;omega
     ·intro j;by_cases hj:j<idx.length
      ·have hl:=hlt idx[j] (List.getElem_mem hj);have e1:(((idx.map fun i=>st.hp.getD i .emp).map (Ck.den ρ'))++Fs)[j]? =some ((st.hp[idx[j]]).den ρ'):=by
        rw [List.getElem?_append_left (by simpa using hj)];simp [hj,hl]
       have e2:(st.hp.map (Ck.den ρ')++Fs)[idx[j]]? =some ((st.hp[idx[j]]).den ρ'):=by
        rw [List.getElem?_append_left (by simpa using hl)];simp [hl]
       rw [e1,List.getElem?_append_left hj,List.getElem?_eq_getElem hj,Option.bind_some,e2]
      ·rw [List.getElem?_append_right (by simpa using hj),List.getElem?_append_right (by omega)];simp only [List.length_map,List.getElem?_map];by_cases hq:j - idx.length<Fs.length
       ·rw [List.getElem?_range hq,Option.map_some,Option.bind_some,List.getElem?_append_right (by simp)];simp
       ·rw [List.getElem?_eq_none (by omega),List.getElem?_eq_none (by simpa using hq)];simp
   split at h5
   case h_2=>exact h5.elim
   rename_i eqs heq;split at h5
   case isFalse=>exact h5.elim
   rename_i hsc;simp only [Bool.and_eq_true,decide_eq_true_eq]at hsc;obtain⟨⟨⟨hs1,hs2⟩,hs3⟩,hs4⟩:=hsc;have hlt: ∀i∈s.use,i<st.hp.length:=fun i hi=>by simpa [Nat.blt_eq] using List.all_eq_true.1 hs3 i hi
   simp only [VC]at h5;obtain⟨I,hI,hr⟩:=h5;rw [allExt_iff]at hr;have hown:=Owns.takeAll (acc:=[]) (use:=s.use) (by simpa using h3.own) hs4 (by simpa using hlt);have huse:(s.use.map fun i=>st.hp.getD i .emp).map (Ck.den ρ')=s.use.map (fun i=>(st.hp.map (Ck.den ρ')).getD i HP.emp):=by
    rw [List.map_map];refine List.map_congr_left fun i hi=>?_
    have:=hlt i hi;simp [this]
   rw [List.nil_append,←huse]at hown;have hx:=hI _ _ hown;rw [exExt_iff]at hx;obtain⟨e,hf,hq⟩:=hx;rw [Eqs_iff]at hq;obtain⟨hh,hown',hIe⟩:=hq;have hle:=Env.le_ext ρ' e;have hag:=Env.Le.agree h3.lens hle;refine⟨m,by omega,_,ρ'.ext e,L',h1.trans hle,h2,?_,?_,hr e hf hIe⟩
   ·refine⟨h3.lens.ext hf,?_,?_,BEs_mono (Cnt.le_add _ _) h3.sck,fun b hb=>?_,?_,h3.same,dsc_mono (Cnt.le_add _ _) h3.scd⟩
    ·simp only [frSc,List.all_append,Bool.and_eq_true];refine⟨hs1,List.all_eq_true.2 fun x hx=>?_⟩;exact SV.sc_mono (Cnt.le_add _ _) (List.all_eq_true.1 h3.scf x (List.mem_filter.1 hx).1)
    ·exact replL_all _ _ rfl _ _ _ (Cks_mono (Cnt.le_add _ _) h3.sch) hs2
    ·exact(BE.sc_prop hag (List.all_eq_true.1 h3.sck b hb)).1 (h3.kn b hb)
    ·have h1:=Owns.putAll (use:=s.use) hown' (fun i hi=>by rw [blank_length];simpa using hlt i hi) fun _ _=> .inr trivial
     rw [←replL_blank _ _ _ hs4,Cks_sc hag h3.sch]at h1;simp only [replaceHp];rw [map_replL];exact h1
   ·have hm:=h4.more h3.scf h3.scd hag;refine⟨hm.defers,hm.size,fun x v hx=>?_⟩;rcases look_append hx with hx | hx
    ·obtain⟨v',hv',he⟩:=unifyFr_sound heq hh x v hx;rw [h4.slots x v' hv',he]
    ·have:=look_of_filter (f:=fun q=> !(s.slots.any fun y=>y.1==q)) hx;exact hm.slots x v this
theorem QK.gh{n:Nat}{g:St→Option GhostStep}{k:List KI}{ρ:Env}{L:Nat→LC}{e:Exit}{a:Act}{w:World}(h:QK P C Post Fs w0 n (.gh g::k) ρ L e a w):QK P C Post Fs w0 n k ρ L e a w:=by
 cases e with
 | normal=>
  obtain⟨k',hk,hat⟩:=h;cases hk;exact⟨k,rfl,hat.gh⟩
 | exit id=>exact QK.move (k:=k) h rfl fun _ _=>rfl
 | ret=>exact QK.move (k:=k) h rfl fun _ _=>rfl
 | goto l=>obtain⟨k',hk,_⟩:=h;cases hk
 | panic l=>obtain⟨k',hk,_⟩:=h;cases hk
 | outgrown=>obtain⟨k',hk,_⟩:=h;cases hk
theorem roundsIn_le{F:Fence}{n:Nat}{c:Code}{Q:Exit→Act→World→Prop}: ∀{m m':Nat} {a:Act} {w:World},m≤m'→Code.roundsIn F n P c Q m a w→Code.roundsIn F n P c Q m' a w
 | 0,_,_,_,_,h=>h.elim
 | m+1,0,_,_,hm,_=>absurd hm (by omega)
 | m+1,m'+1,a,w,hm,h=>by
  refine wpIn_mono (show c.wpIn F n P (Exit.then (Code.roundsIn F n P c Q m) Q) a w from h) fun e a w hq=>?_
  cases e with
  | normal=>exact roundsIn_le (by omega) hq
  | _=>exact hq
theorem unroll{N:Nat}{ro:Option Nat}{body:Code}{k:List KI}{ρ:Env}{L:Nat→LC}(IHc: ∀m,m<N→SoundC P C Post Fs w0 m): ∀(n:Nat),n<N→∀(st:St) (ρ':Env) (L':Nat→LC) (a:Act) (w:World),
  VC P Post (run C n (.code body:: .again body::k) st) ρ' L'→Env.Le ρ ρ'→(∀j,j<nl k→L' j=L j)→HW Fs w0 st ρ' w→HA st.fr st.nt ρ' a→Stk ρ' k ro→Code.roundsIn (FW ro) 0 P body (QK P C Post Fs w0 N k ρ L) (n+1) a w:=by
 intro n
 induction n using Nat.strongRecOn with
 | _ n ih=>
  intro hn st ρ' L' a w hv hle hL hw ha hk;refine wpIn_mono (IHc n hn ro body (.again body::k) st ρ' L' a w hv hw ha (hk.push rfl)) ?_;intro e a' w' hq;cases e with
  | normal=>
   obtain⟨k',hk2,m,hm,st2,ρ2,L2,h1,h2,h3,h4,h5⟩:=hq;cases hk2;cases m with
   | zero=>exact h5.elim
   | succ m=>
    have:=ih m (by omega) (by omega) st2 ρ2 L2 a' w' h5 (hle.trans h1) (fun j hj=>(h2 j hj).trans (hL j hj)) h3 h4 (hk.le h1);exact roundsIn_le (by omega) this
  | exit id=>exact(QK.move (k:=k) hq rfl fun _ _=>rfl).mono (by omega) hle hL
  | ret=>exact(QK.move (k:=k) hq rfl fun _ _=>rfl).mono (by omega) hle hL
  | goto l=>obtain⟨k',hk,_⟩:=hq;cases hk
  | panic l=>obtain⟨k',hk,_⟩:=hq;cases hk
  | outgrown=>obtain⟨k',hk,_⟩:=hq;cases hk
theorem soundC_step(_:checkT P C.T=true){n:Nat}(IHc: ∀m,m<n→SoundC P C Post Fs w0 m)(IHo: ∀m,m<n→SoundO P C Post Fs w0 m)(IHd: ∀m,m<n→SoundD P C Post Fs w0 m)(IHr:SoundR P C Post Fs w0 n):SoundC P C Post Fs w0 n:=by
 intro ro c k st ρ L a w hv hw ha hstk;cases n with
 | zero=>exact hv.elim
 | succ n=>
  have hn:n<n+1:=Nat.lt_succ_self n;cases c with
  | skip=>exact wpIn_skip (QK.here hn rfl hv hw ha)
  | label l=>exact wpIn_label (QK.here hn rfl hv hw ha)
  | seq x y=>
   refine wpIn_seq (wpIn_mono (IHc n hn ro x (.code y::k) st ρ L a w hv hw ha (hstk.push rfl)) ?_);intro e a' w' hq;cases e with
   | normal=>
    obtain⟨k',hk,m,hm,st',ρ',L',h1,h2,h3,h4,h5⟩:=hq;cases hk;refine wpIn_mono (IHc m (by omega) ro y k st' ρ' L' a' w' h5 h3 h4 (hstk.le h1)) fun e a w hq=>?_
    exact hq.mono (by omega) h1 h2
   | exit id=>exact(QK.move (k:=k) hq rfl fun _ _=>rfl).mono (Nat.le_succ n) (Env.Le.refl _) fun _ _=>rfl
   | ret=>exact(QK.move (k:=k) hq rfl fun _ _=>rfl).mono (Nat.le_succ n) (Env.Le.refl _) fun _ _=>rfl
   | goto l=>obtain⟨k',hk,_⟩:=hq;cases hk
   | panic l=>obtain⟨k',hk,_⟩:=hq;cases hk
   | outgrown=>obtain⟨k',hk,_⟩:=hq;cases hk
  | cond x t e=>
   simp only [run]at hv;have up: ∀{e:Exit} {a:Act} {w:World},QK P C Post Fs w0 n k ρ L e a w→QK P C Post Fs w0 (n+1) k ρ L e a w:=fun hq=>hq.mono (Nat.le_succ n) (Env.Le.refl _) fun _ _=>rfl
   split at hv
   ·rename_i hc;have:=condOf_sound ha hw.kn hc;exact wpIn_cond_true this (wpIn_mono (IHc n hn ro t k st ρ L a w hv hw ha hstk) fun e a w hq=>up hq)
   ·rename_i hc;have:=condOf_sound ha hw.kn hc;exact wpIn_cond_false this (wpIn_mono (IHc n hn ro e k st ρ L a w hv hw ha hstk) fun e a w hq=>up hq)
   ·rename_i b _ _ hc;have hb:=condOf_sound ha hw.kn hc;split at hv
    ·rename_i hsc;simp only [VC,Fork]at hv;cases hd:b.den ρ with
     | true=>
      have hp:=(BE.den_iff ρ b).1 hd;exact wpIn_cond_true (by rw [hb,hd]) (wpIn_mono (IHc n hn ro t k _ ρ L a w (hv.1 hp) (hw.know hp hsc) ha hstk) fun e a w hq=>up hq)
     | false=>
      have hp: ¬b.prop ρ:=fun h=>by rw [←BE.den_iff,hd]at h;cases h
      have hp':(bNot b).prop ρ:=by rw [←BE.den_iff,bNot_den,hd];rfl
      exact wpIn_cond_false (by rw [hb,hd]) (wpIn_mono (IHc n hn ro e k _ ρ L a w (hv.2 hp) (hw.know hp' (bNot_sc hsc)) ha hstk) fun e a w hq=>up hq)
    ·exact hv.elim
   ·exact hv.elim
  | block id b=>
   simp only [run]at hv;split at hv;rotate_left
   ·rename_i ja hja;split at hv
    case isFalse=>exact hv.elim
    rename_i hsc;simp only [Bool.and_eq_true]at hsc;obtain⟨⟨⟨hs1,hs2⟩,hs3⟩,hs4⟩:=hsc;simp only [VC]at hv;obtain⟨I,hbody,hrest⟩:=hv;rw [allExt_iff]at hrest;have meetc: ∀(m:Nat) (st':St) (ρ':Env) (L':Nat→LC) (a':Act) (w':World),m≤n→Env.Le ρ ρ'→(∀j,j<nl k+1→L' j=setL L (nl k) ⟨I,fun _=>0,⟨[],[],[],[],[],[],[]⟩⟩ j)→
      HW Fs w0 st' ρ' w'→HA st'.fr st'.nt ρ' a'→
      VC P Post (run C m (.jn (some id) (nl k) {st.nt with ds:=ja.ds st.cnt st.nt.ds} st.cnt ja.inc (ja.slots st.cnt++st.fr.filter fun x=> !((writes b).contains x.1)&& !((ja.slots st.cnt).any fun y=>y.1==x.1)) (ja.hp st.cnt st.hp) ja.pre::k) st') ρ' L'→
      QK P C Post Fs w0 (n+1) k ρ L .normal a' w':=by
     intro m st' ρ' L' a' w' hm hle hL g3 g4 g5;cases m with
     | zero=>exact g5.elim
     | succ m=>
      simp only [run]at g5;split at g5
      ·exact g5.elim
      rename_i st9 nn9 hnil9;obtain⟨ρ9,gle9,g3,g4,hfn9,g5⟩:=nilAll_sound hnil9 g3 g4 g5;have hle:=hle.trans gle9;split at g5
      ·rename_i x' y' z' hx' hy' hz';split at g5
       ·exact g5.elim
       ·rename_i hnt';simp only [bne_iff_ne,ne_eq,Decidable.not_not]at hnt';simp only [VC]at g5;rw [exExt_iff]at g5;obtain⟨e2,hf2,hq2⟩:=g5;rw [Env.Le.take hw.lens hle,Eqs_iff]at hq2;obtain⟨hh2,hI2⟩:=hq2;have hLI:(L' (nl k)).I=I:=by
         rw [hL _ (by omega)];simp [setL]
        rw [hLI]at hI2;obtain⟨r1,r2⟩:=pattern_holds2 (nt':={st.nt with ds:=ja.ds st.cnt st.nt.ds}) g3 g4 hw.lens hle (Env.le_ext ρ e2) hx' hy' hz' hnt'.symm hh2;refine⟨k,rfl,n,by omega,_,ρ.ext e2,L,Env.le_ext ρ e2,fun _ _=>rfl,?_,r1,hrest e2 hf2 hI2⟩;exact loop_head2 (f:=fun q=> !((writes b).contains q)&& !((ja.slots st.cnt).any fun y=>y.1==q)) hw.lens hf2 hs1 hs2 hw.scf hs4 g3.same r2
      ·exact g5.elim
      ·exact g5.elim
      ·exact g5.elim
    refine wpIn_block (wpIn_mono (IHc n hn ro b _ st ρ _ a w hbody hw ha (hstk.push rfl)) ?_);intro e a' w' hq;cases e with
    | normal=>
     obtain⟨k',hk,m,hm,st',ρ',L',h1,h2,h3,h4,h5⟩:=hq;cases hk;exact meetc m st' ρ' L' a' w' (Nat.le_of_lt hm) h1 h2 h3 h4 h5
    | exit id'=>
     simp only [Exit.inBlock];split
     ·rename_i he;subst he;obtain⟨k',hk,m,hm,st',ρ',L',h1,h2,h3,h4,h5⟩:=hq;simp only [resume,popExit,beq_self_eq_true,if_true,Option.some.injEq]at hk;subst hk;exact meetc m st' ρ' L' a' w' (Nat.le_of_lt hm) h1 h2 h3 h4 h5
     ·rename_i he;refine(QK.move (k:=k) (L:=L) hq ?_ fun j hj=>?_).mono (Nat.le_succ n) (Env.Le.refl _) fun _ _=>rfl
      ·simp only [resume,popExit];rw [if_neg (by simpa using Ne.symm he)]
      ·simp only [setL];rw [if_neg (by omega)]
    | ret=>
     refine(QK.move (k:=k) (L:=L) hq rfl fun j hj=>?_).mono (Nat.le_succ n) (Env.Le.refl _) fun _ _=>rfl
     simp only [setL];rw [if_neg (by omega)]
    | goto l=>obtain⟨k',hk,_⟩:=hq;cases hk
    | panic l=>obtain⟨k',hk,_⟩:=hq;cases hk
    | outgrown=>obtain⟨k',hk,_⟩:=hq;cases hk
   refine wpIn_block (wpIn_mono (IHc n hn ro b (.blk id::k) st ρ L a w hv hw ha (hstk.push rfl)) ?_);intro e a' w' hq;cases e with
   | normal=>
    obtain⟨k',hk,m,hm,st',ρ',L',h1,h2,h3,h4,h5⟩:=hq;cases hk;cases m with
    | zero=>exact h5.elim
    | succ m=>exact⟨k,rfl,m,by omega,st',ρ',L',h1,h2,h3,h4,h5⟩
   | exit id'=>
    simp only [Exit.inBlock];split
    ·rename_i he;subst he;obtain⟨k',hk,m,hm,st',ρ',L',h1,h2,h3,h4,h5⟩:=hq;simp only [resume,popExit,beq_self_eq_true,if_true,Option.some.injEq]at hk;subst hk;exact⟨k,rfl,m,by omega,st',ρ',L',h1,h2,h3,h4,h5⟩
    ·rename_i he;refine(QK.move (k:=k) hq ?_ fun _ _=>rfl).mono (Nat.le_succ n) (Env.Le.refl _) fun _ _=>rfl
     simp only [resume,popExit];rw [if_neg (by simpa using Ne.symm he)]
   | ret=>exact(QK.move (k:=k) hq rfl fun _ _=>rfl).mono (Nat.le_succ n) (Env.Le.refl _) fun _ _=>rfl
   | goto l=>obtain⟨k',hk,_⟩:=hq;cases hk
   | panic l=>obtain⟨k',hk,_⟩:=hq;cases hk
   | outgrown=>obtain⟨k',hk,_⟩:=hq;cases hk
  | loop body=>
   simp only [run]at hv;split at hv
   ·rename_i id k0;split at hv
    ·exact wpIn_loop_rounds _ (unroll IHc n hn st ρ L a w hv (Env.Le.refl _) (fun _ _=>rfl) hw ha hstk)
    ·rename_i la hla;split at hv
     ·exact hv.elim
     ·rename_i st1 nn hnil;obtain⟨ρ1,hle1,hw1,ha1,hfn,hv1⟩:=nilAll_sound hnil hw ha hv;split at hv1
      ·rename_i x y z hx hy hz;split at hv1
       ·rename_i hsc;simp only [Bool.and_eq_true]at hsc;obtain⟨⟨⟨hs1,hs2⟩,hs3⟩,hs4⟩:=hsc;simp only [VC]at hv1;obtain⟨I,μ,hentry,hround⟩:=hv1;rw [exExt_iff]at hentry;rw [allExt_iff]at hround;obtain⟨e0,hf0,hq0⟩:=hentry;rw [Eqs_iff]at hq0;obtain⟨hh0,hI0⟩:=hq0;obtain⟨q1,q2⟩:=pattern_holds2 (nt':={st1.nt with ds:=la.ds st1.cnt st1.nt.ds}) hw1 ha1 hw1.lens (Env.Le.refl _) (Env.le_ext ρ1 e0) hx hy hz rfl hh0;refine wpIn_loop_ghost (fun n' a w=> ∃e:Ext,e.Fits la.inc∧I e∧μ e=n'∧HW Fs w0
          {st1 with fr:=la.slots st1.cnt++st1.fr.filter (fun x=> !((writes body).contains x.1)&& !((la.slots st1.cnt).any fun y=>y.1==x.1)),hp:=la.hp st1.cnt st1.hp,cnt:=st1.cnt.add la.inc,known:=[],nt:={st1.nt with ds:=la.ds st1.cnt st1.nt.ds}} (ρ1.ext e) w∧
          HA (la.slots st1.cnt++st1.fr.filter (fun x=> !((writes body).contains x.1)&& !((la.slots st1.cnt).any fun y=>y.1==x.1))) {st1.nt with ds:=la.ds st1.cnt st1.nt.ds} (ρ1.ext e) a) (μ e0) ⟨e0,hf0,hI0,rfl,?_,?_⟩ ?_
        ·exact loop_head2 (f:=fun q=> !((writes body).contains q)&& !((la.slots st1.cnt).any fun y=>y.1==q)) hw1.lens hf0 hs1 hs2 hw1.scf hs4 hw1.same q2
        ·refine⟨q1.defers,q1.size,fun s v hs=>?_⟩;rcases look_append hs with hs | hs
         ·exact q1.slots s v hs
         ·have:=look_of_filter (f:=fun q=> !((writes body).contains q)&& !((la.slots st1.cnt).any fun y=>y.1==q)) hs;rw [ha1.slots s v this];exact(SV.sc_val (Env.Le.agree hw1.lens (Env.le_ext ρ1 e0)) (look_sc hw1.scf this)).1
        ·intro n' a2 w2 hI2;obtain⟨e,he,hIe,hμ,hw2,ha2⟩:=hI2;subst hμ;have hvb:=hround e he hIe;refine wpIn_mono (IHc n hn ro body _ _ _ _ a2 w2 hvb hw2 ha2 ((hstk.le (hle1.trans (Env.le_ext ρ1 e))).push rfl)) ?_;intro ex a3 w3 hq;cases ex with
         | normal=>
          obtain⟨k',hk,m,hm,st',ρ',L',g1,g2,g3,g4,g5⟩:=hq;cases hk;cases m with
          | zero=>exact g5.elim
          | succ m=>
           simp only [run]at g5;split at g5
           ·exact g5.elim
           rename_i st9 nn9 hnil9;obtain⟨ρ9,gle9,g3,g4,hfn9,g5⟩:=nilAll_sound hnil9 g3 g4 g5;have g1:=g1.trans gle9;split at g5
           ·rename_i x' y' z' hx' hy' hz';split at g5
            ·exact g5.elim
            ·rename_i hnt';simp only [bne_iff_ne,ne_eq,Decidable.not_not]at hnt';simp only [VC]at g5;rw [exExt_iff]at g5;obtain⟨e2,hf2,hq2⟩:=g5;have hle3:Env.Le ρ1 ρ9:=(Env.le_ext ρ1 e).trans g1;rw [Env.Le.take hw1.lens hle3,Eqs_iff]at hq2;obtain⟨hh2,hI2,hμ2⟩:=hq2;have hL:L' (nl (.blk id::k0))=⟨I,μ,e⟩:=by
              rw [g2 _ (by simp [nl])];simp [setL]
             rw [hL]at hI2 hμ2;obtain⟨r1,r2⟩:=pattern_holds2 (nt':={st1.nt with ds:=la.ds st1.cnt st1.nt.ds}) g3 g4 hw1.lens hle3 (Env.le_ext ρ1 e2) hx' hy' hz' hnt'.symm hh2;refine⟨μ e2,hμ2,e2,hf2,hI2,rfl,?_,r1⟩;exact loop_head2 (f:=fun q=> !((writes body).contains q)&& !((la.slots st1.cnt).any fun y=>y.1==q)) hw1.lens hf2 hs1 hs2 hw1.scf hs4 g3.same r2
           ·exact g5.elim
           ·exact g5.elim
         | exit id'=>
          refine(QK.move (k:= .blk id::k0) (L:=L) hq rfl ?_).mono (Nat.le_succ n) (hle1.trans (Env.le_ext ρ1 e)) fun _ _=>rfl
          intro j hj;simp only [setL];rw [if_neg (by omega)]
         | ret=>
          refine(QK.move (k:= .blk id::k0) (L:=L) hq rfl ?_).mono (Nat.le_succ n) (hle1.trans (Env.le_ext ρ1 e)) fun _ _=>rfl
          intro j hj;simp only [setL];rw [if_neg (by omega)]
         | goto l=>obtain⟨k',hk,_⟩:=hq;cases hk
         | panic l=>obtain⟨k',hk,_⟩:=hq;cases hk
         | outgrown=>obtain⟨k',hk,_⟩:=hq;cases hk
       ·exact hv1.elim
      ·exact hv1.elim
   ·exact wpIn_loop_rounds _ (unroll IHc n hn st ρ L a w hv (Env.Le.refl _) (fun _ _=>rfl) hw ha hstk)
  | exit id=>
   simp only [run]at hv;split at hv
   ·rename_i k' hk;exact wpIn_exit (QK.here hn hk hv hw ha)
   ·exact hv.elim
  | ret=>
   simp only [run]at hv;split at hv
   ·rename_i k' hk;exact wpIn_ret (QK.here hn hk hv hw ha)
   ·exact hv.elim
  | region id ops draw=>
   cases draw with
   | false=>
    simp only [run]at hv;split at hv
    ·exact wpIn_region_list (wpListIn_mono (fun e a w hq=>hq.mono (Nat.le_succ n) (Env.Le.refl _) fun _ _=>rfl) (IHo n hn ro ops ops.toList k st ρ L a w hv hw ha hstk))
    ·exact wpIn_region_list (wpListIn_mono (fun e a w hq=>hq.gh.mono (Nat.le_succ n) (Env.Le.refl _) fun _ _=>rfl) (IHo n hn ro ops ops.toList _ st ρ L a w hv hw ha (hstk.push rfl)))
   | true=>
    simp only [run]at hv;split at hv
    ·rename_i hc;simp only [Bool.and_eq_true]at hc;split at hv
     ·rename_i ja hja;split at hv
      case isFalse=>exact hv.elim
      rename_i hsc;simp only [Bool.and_eq_true]at hsc;obtain⟨⟨⟨hs1,hs2⟩,hs3⟩,hs4⟩:=hsc;simp only [VC]at hv;obtain⟨I,hbody,hrest⟩:=hv;rw [allExt_iff]at hrest;have meetc: ∀(m:Nat) (st':St) (ρ':Env) (L':Nat→LC) (a':Act) (w':World),m≤n→Env.Le ρ ρ'→(∀j,j<nl k+1→L' j=setL L (nl k) ⟨I,fun _=>0,⟨[],[],[],[],[],[],[]⟩⟩ j)→
        HW Fs w0 st' ρ' w'→HA st'.fr st'.nt ρ' a'→
        VC P Post (run C m (.jn none (nl k) {st.nt with ds:=ja.ds st.cnt st.nt.ds} st.cnt ja.inc (ja.slots st.cnt++st.fr.filter fun x=> !((writes (.region id ops true)).contains x.1)&& !((ja.slots st.cnt).any fun y=>y.1==x.1)) (ja.hp st.cnt st.hp) ja.pre::k) st') ρ' L'→
        QK P C Post Fs w0 (n+1) k ρ L .normal a' w':=by
       intro m st' ρ' L' a' w' hm hle hL g3 g4 g5;cases m with
       | zero=>exact g5.elim
       | succ m=>
        simp only [run]at g5;split at g5
        ·exact g5.elim
        rename_i st9 nn9 hnil9;obtain⟨ρ9,gle9,g3,g4,hfn9,g5⟩:=nilAll_sound hnil9 g3 g4 g5;have hle:=hle.trans gle9;split at g5
        ·rename_i x' y' z' hx' hy' hz';split at g5
         ·exact g5.elim
         ·rename_i hnt';simp only [bne_iff_ne,ne_eq,Decidable.not_not]at hnt';simp only [VC]at g5;rw [exExt_iff]at g5;obtain⟨e2,hf2,hq2⟩:=g5;rw [Env.Le.take hw.lens hle,Eqs_iff]at hq2;obtain⟨hh2,hI2⟩:=hq2;have hLI:(L' (nl k)).I=I:=by
           rw [hL _ (by omega)];simp [setL]
          rw [hLI]at hI2;obtain⟨r1,r2⟩:=pattern_holds2 (nt':={st.nt with ds:=ja.ds st.cnt st.nt.ds}) g3 g4 hw.lens hle (Env.le_ext ρ e2) hx' hy' hz' hnt'.symm hh2;refine⟨k,rfl,n,by omega,_,ρ.ext e2,L,Env.le_ext ρ e2,fun _ _=>rfl,?_,r1,hrest e2 hf2 hI2⟩;exact loop_head2 (f:=fun q=> !((writes (.region id ops true)).contains q)&& !((ja.slots st.cnt).any fun y=>y.1==q)) hw.lens hf2 hs1 hs2 hw.scf hs4 g3.same r2
        ·exact g5.elim
        ·exact g5.elim
        ·exact g5.elim
      refine wpIn_mono (IHd n hn ro id ops _ _ st ρ _ a w hbody hc.1 hc.2 hw ha ((hstk.push rfl).push rfl)) ?_;intro e a' w' hq;have hq:=hq.gh;cases e with
      | normal=>
       obtain⟨k',hk,m,hm,st',ρ',L',h1,h2,h3,h4,h5⟩:=hq;cases hk;exact meetc m st' ρ' L' a' w' (Nat.le_of_lt hm) h1 h2 h3 h4 h5
      | exit id'=>
       refine(QK.move (k:=k) (L:=L) hq rfl fun j hj=>?_).mono (Nat.le_succ n) (Env.Le.refl _) fun _ _=>rfl
       simp only [setL];rw [if_neg (by omega)]
      | ret=>
       refine(QK.move (k:=k) (L:=L) hq rfl fun j hj=>?_).mono (Nat.le_succ n) (Env.Le.refl _) fun _ _=>rfl
       simp only [setL];rw [if_neg (by omega)]
      | goto l=>obtain⟨k',hk,_⟩:=hq;cases hk
      | panic l=>obtain⟨k',hk,_⟩:=hq;cases hk
      | outgrown=>obtain⟨k',hk,_⟩:=hq;cases hk
     split at hv
     ·exact wpIn_mono (IHd n hn ro id ops _ k st ρ L a w hv hc.1 hc.2 hw ha hstk) fun e a w hq=>hq.mono (Nat.le_succ n) (Env.Le.refl _) fun _ _=>rfl
     ·exact wpIn_mono (IHd n hn ro id ops _ _ st ρ L a w hv hc.1 hc.2 hw ha (hstk.push rfl)) fun e a w hq=>hq.gh.mono (Nat.le_succ n) (Env.Le.refl _) fun _ _=>rfl
    ·exact hv.elim
  | rangeFunc f ps x y=>exact IHr ro f ps x y k st ρ L a w hv hw ha hstk
  | scope x=>exact hv.elim
  | goto l=>exact hv.elim
  | refuse y=>exact hv.elim
end
end Go.RX
