/- Executor. -/
import Derived.Test.YtphemenngjkfbaaM21
open Array renaming getD_eq_getD_getElem? → agS, getElem?_eq_some_iff → agH
open Bool renaming and_eq_true → ai
open Go.Region renaming binds → ahh
open List renaming all_eq_true → agv, append_nil → agL, map_cons → agW, mem_cons_self → agA, mem_filter → agP, mem_map → ag9, mem_range → agJ, mem_singleton → agZ, range → ag5
open Nat renaming blt_eq → agM, lt_of_lt_of_le → agI
open Option renaming map_eq_some_iff → agz
open Option.some renaming injEq → agy
namespace Go.RX
section
variable {P:Program} {C:Ctx} {aq:Value→List HP→Prop} {Fs:List HP} {w0:World} {all:Array Oper} {pm:List Nat}
variable {ro:Option Nat} {nt:NT} {a0:Act} {listed:Array Bool} {a:Act} {w:World} {rest:List Nat} {done:Nat} {log:List (Nat×List Nat)} {st:St} {ρ:Env} {W:List Wr}
theorem Oper.Oi{F:Fence}{n:Nat}{o:Oper}{K:Act→World→Prop}{Q:Exit→Act→World→Prop}(hh:o.wpIn F n P a w K Q):
  o.wpIn F n P a w (fun a' w'=>K a' w'∧(a'.defers≠a.defers∨∃u,a'=a.put o.dst u)) Q:=by
 unfold Oper.wpIn at*;refine⟨hh.1,?_⟩;have hh:=hh.2;generalize (o.semAt F.round a.eval).run P w=r at*;cases r with
 | ok x w'=>
  cases x<;>simp only [Oper.uponIn]at hh ⊢ <;>
   first
    | exact⟨hh,.inr ⟨_,rfl⟩⟩
    | exact⟨hh,.inl (by rw [put_defers];simp)⟩
    | exact⟨hh.1,CallsIn.mono hh.2 (fun e XS he=>by cases e<;>first | exact⟨he,.inr ⟨_,rfl⟩⟩ | exact he)⟩
    | exact⟨hh.1,RowsIn.mono hh.2 (fun _ _ he=>⟨he,.inr ⟨_,rfl⟩⟩)⟩
    | exact⟨hh.1,RoundIn.mono hh.2 (fun e XS he=>by cases e<;>first | exact⟨he,.inr ⟨_,rfl⟩⟩ | exact he)⟩
    | exact hh
 | halt x w'=>cases x<;>simp only [Oper.uponIn]at hh ⊢ <;>exact hh
theorem Oper.IE{F:Fence}{n:Nat}{o:Oper}{K K':Act→World→Prop}{Q Q':Exit→Act→World→Prop}(h: ∀a w,K a w→K' a w)(hq: ∀c a w,¬Q (.panic c) a w)(ho: ¬LetsOut Q)
  (hh:o.wpIn F n P a w K Q):o.wpIn F n P a w K' Q':=by
 unfold Oper.wpIn at*;refine⟨hh.1,?_⟩;have hh:=hh.2;generalize (o.semAt F.round a.eval).run P w=r at*;cases r with
 | ok x w'=>
  cases x<;>simp only [Oper.uponIn]at hh ⊢ <;>
   first
    | exact h _ _ hh
    | exact⟨hh.1,CallsIn.mono hh.2 (fun e XS he=>by cases e<;>first | exact h _ _ he | exact absurd he (hq _ _ _) | exact absurd he ho)⟩
    | exact⟨hh.1,RowsIn.mono hh.2 (fun _ _ he=>h _ _ he)⟩
    | exact⟨hh.1,RoundIn.mono hh.2 (fun e XS he=>by cases e<;>first | exact h _ _ he | exact absurd he (hq _ _ _) | exact absurd he ho)⟩
 | halt x w'=>cases x<;>simp only [Oper.uponIn]at hh ⊢ <;>first | exact absurd hh (hq _ _ _) | exact hh
theorem Mp{c:cF}{hp mQ:List Ck}{rd:List Nat}{ρ bI:Env}(h:kept c hp mQ rd=true)(eV:gy c ρ bI){j:Nat}(hj:j∈rd){a:Ck}(ha:hp[j]? =some a):
  ∃b,mQ[j]? =some b∧b.den bI=a.den ρ:=by
 have h1:=agv.1 h j hj;simp only [ha]at h1;split at h1
 ·rename_i x b hx hb;cases hx;split at h1
  ·rename_i l hl;refine⟨b,hb,(s9 eV.va hl fun y hy=>s7 eV (agv.1 h1 y hy)).symm⟩
  ·cases h1
 ·rename_i hx;cases hx
 ·cases h1
theorem DI.effect{n:Nat}(NH:uh P C aq Fs w0 n){k:List KI}(gi:ED ρ k ro)(h:DI P Fs w0 all ro nt a0 listed a w rest done log st ρ W)(vu:lN all pm=true)(Dy:Ay all pm=true){e:Nat}{o:Oper}(he:all[e]? =some o)(her:e∈rest)
  (uL:kF listed e=false) (p_: ∀x∈o.after,ahh .any x=true→kF listed x.on=true) (yV:rj st o.dst=true) {L:Nat→LC}
  (hv:VC P aq (run C n (.ops all [o]:: .Oj all pm e rest done log st.fn st.nt st.fr st.hp st.aS::k) {st with fr:=restrict st.fr (slotsOf all o)}) ρ L) (Q:Exit→Act→World→Prop) (K:Act→World→Prop)
  (hK: ∀a' w',(∃m,m<n∧∃rest done log st bI L' W,VC P aq (run C m (.ug all pm rest done log::k) st) bI L'∧Env.Le ρ bI∧(∀j,j<nl k→L' j=L j)∧DI P Fs w0 all ro nt a0 (listed.setIfInBounds e true) a' w' rest done log st bI W)→K a' w'):
  wpOpIn (FW ro) 0 P all Q e K a w:=by
 have heW:e ∉ W.map (·.1):=((h.rest e).1 her).2;have W3:e<listed.size:=by rw [h.R_];exact(agH.1 he).1
 have XY:a.defers=(nH a0 W).defers:=by rw [h.act,lM,lM]
 have fx:nt.n≤a.tmps.size:=by rw [h.act,pe,←pe W];exact h.ha.size
 have ha:HA (restrict st.fr (slotsOf all o)) nt ρ a:=by
  refine x_ h.ha (fun s hs=>?_) XY fx;rw [h.act];have:=yd (a0:=a0) (listed:=listed) (W1:=W) (tail:=[]) (s:=s) (fun y hy Ks=>h.before vu Dy he p_ (tail:=[]) (by simp) heW (.inl hs) y hy Ks) (fun y hy=>by cases hy)
  rwa [agL]at this
 have hw:HW Fs w0 {st with fr:=restrict st.fr (slotsOf all o)} ρ w:=
  ⟨h.hw.lens,agv.2 fun x hx=>agv.1 h.hw.lX x (agP.1 hx).1,h.hw.gF,h.hw.oO,h.hw.kn,h.hw.own,h.hw.same,h.hw.mP⟩
 have T4:=NH ro all [o] _ _ ρ L a w hv hw (by rw [show({st with fr:=restrict st.fr (slotsOf all o)}:St).nt=st.nt from rfl,h.NF];exact ha) (gi.push rfl);have fin: ∀a' w',QK P C aq Fs w0 n (.Oj all pm e rest done log st.fn st.nt st.fr st.hp st.aS::k) ρ L .normal a' w'→(a'.defers≠a.defers∨∃u,a'=a.put o.dst u)→K a' w':=by
  intro a' w' hq Af;obtain⟨k',hk,m,hm,dD,bI,L',g1,g2,g3,g4,g5⟩:=hq;cases hk;cases m with
  | zero=>exact g5.elim
  | succ m=>
   simp only [run,he]at g5;split at g5
   case isFalse=>exact g5.elim
   rename_i ui;rw [ai,beq_iff_eq]at ui;obtain⟨ui,Ci⟩:=ui;obtain⟨u,rfl⟩: ∃u,a'=a.put o.dst u:=by
    rcases Af with Af | Af
    ·rw [g4.defers,XY,h.ha.defers,Ci,h.NF]at Af;exact absurd (vA (Env.Le.agree h.hw.lens g1) (by rw [←h.NF];exact h.hw.mP)).symm Af
    ·exact Af
   split at g5
   case h_2=>exact g5.elim
   rename_i v sO;have eV:=Env.Le.agree h.hw.lens g1;have eL:=gK.le h.hw.lens g3.lens g1;have Kj:v.sc dD.aS=true:=by
    cases hd:o.dst with
    | none=>rw [hd]at sO;simp only [agy]at sO;subst sO;rfl
    | some d=>rw [hd]at sO;exact EB g3.lX sO
   have Kt:HW Fs w0 (fW dD st.fn st.nt st.fr) bI w':=⟨g3.lens,cO eL h.hw.lX,g3.gF,g3.oO,g3.kn,g3.own,g3.same,dz eL h.hw.mP⟩;have LW:=eF (fW dD st.fn st.nt st.fr) o.dst v;have w6: ∀j,kF (listed.setIfInBounds e true) j=(decide (e=j)||kF listed j):=fun j=>zi W3
   refine hK _ _ ⟨m,by omega,_,_,_,_,bI,L',W++[(e,o.dst,u)],g5,g1,g2,?_⟩;refine⟨Kt.put Kj,by rw [LW.2.2.2.1];exact h.NF,?_,?_,?_,?_,?_,?_,by simp [h.R_],?_,?_,?_⟩
   ·have f1:W.filter (fun y=>kF (listed.setIfInBounds e true) y.1)=W.filter (fun y=>kF listed y.1):=List.filter_congr fun y hy=>by
     have:e≠y.1:=fun ee=>heW (by rw [ee];exact ag9.2 ⟨y,hy,rfl⟩)
     rw [w6];simp [this]
    rw [List.filter_append,f1,List.filter_cons_of_pos (by rw [w6];simp),List.filter_nil,jC,vn,←h.act]
   ·rw [jC,vn];have ha3:=h.ha.more h.hw.lX (by rw [←h.NF];exact h.hw.mP) eV;cases hd:o.dst with
    | none=>exact ha3
    | some d=>
     have Vt:d<nt.n:=by rw [←h.NF];exact vz yV d hd
     refine HA.put ha3 (fun x hx=>by cases hx;exact Vt) ?_ _ rfl;rw [hd]at sO;have:=g4.slots d v sO;rw [hd,Ax a d u (agI Vt fx)]at this;exact this
   ·rw [List.map_append,List.nodup_append];exact⟨h.nd,by simp,fun x hx y hy=>by
     simp only [agW,List.map_nil,agZ]at hy;subst hy;intro XX;subst XX;exact heW hx⟩
   ·intro j;rw [ye,Bool.or_eq_true,h.done,List.map_append,List.mem_append];simp only [decide_eq_true_eq,agW,List.map_nil,agZ];exact⟨fun hj=>hj.imp id Eq.symm,fun hj=>hj.imp id Eq.symm⟩
   ·intro j;rw [agP,h.rest,List.map_append,List.mem_append];simp only [bne_iff_ne,ne_eq,agW,List.map_nil,agZ,not_or,and_assoc]
   ·intro j hj;rw [List.map_append,List.mem_append];rw [w6,Bool.or_eq_true]at hj;rcases hj with hj | hj
    ·right;rw [←of_decide_eq_true hj];simp
    ·exact .inl (h.sub j hj)
   ·intro p op H2 hp x hx hb;rw [w6,Bool.or_eq_true]at hp ⊢;rcases hp with hp | hp
    ·have:=of_decide_eq_true hp;subst this;rw [he]at H2;cases H2;exact .inr (p_ x hx hb)
    ·exact .inr (h.WZ p op H2 hp x hx hb)
   ·intro W1 x W2 hW;rcases qa hW with⟨rfl,rfl,rfl⟩ | ⟨Ml,rfl,Se⟩
    ·exact⟨o,he,rfl,fun x hx hb=>h.sub _ (p_ x hx hb)⟩
    ·exact h.Sa W1 x Ml Se
   ·intro W1 x W2 hW IC;rcases qa hW with⟨rfl,rfl,rfl⟩ | ⟨Ml,rfl,Se⟩
    ·rw [w6]at IC;simp at IC
    ·rw [w6,Bool.or_eq_false_iff]at IC;obtain⟨o',rd,hp,sj,h1,h2,h3,h4⟩:=h.Sb W1 x Ml Se IC.2;refine⟨o',rd,hp,sj,h1,h2,h3,fun j hj ck Iy=>?_⟩;obtain⟨Rk,Mf,AB⟩:=h4 j hj ck Iy;have hx:=agv.1 ui _ h2;simp only [Bool.or_eq_true]at hx;rcases hx with hx | hx
     ·have hxl:x.1<all.size:=(agH.1 h1).1;have:=vp Dy (fun q=>kF listed q=true) h.WZ he p_ hxl hx;rw [IC.2]at this;cases this
     ·obtain⟨b,hb,hbd⟩:=Mp hx eV hj Mf;exact⟨b,by rw [LW.1];exact hb,by rw [hbd,AB]⟩
 unfold wpOpIn;simp only [he];unfold wpListIn at T4;split
 ·rename_i na;rw [if_pos na]at T4;refine Oper.IE (fun a' w' hh=>fin a' w' hh.1 hh.2) (fun c a' w' hq=>?_) (fun hq=>?_) (Oper.Oi T4)
  ·obtain⟨k',hk,_⟩:=hq;cases hk
  ·obtain⟨_,_,k',hk,_⟩:=hq;cases hk
 ·rename_i na;rw [if_neg na]at T4;exact⟨T4.1,fin _ _ T4.2 (.inr ⟨undef,rfl⟩)⟩
theorem DI.descend(hT:bC P C.T=true){k:List KI}{L:Nat→LC}: ∀{m:Nat} {rest:List Nat} {done:Nat} {log:List (Nat×List Nat)} {st:St} {W:List Wr},
  VC P aq (run C m (.ug all pm rest done log::k) st) ρ L→DI P Fs w0 all ro nt a0 listed a w rest done log st ρ W→
  ∃m',m'≤m∧∃rest done log st W,VC P aq (run C m' (.ug all pm rest done log::k) st) ρ L∧DI P Fs w0 all ro nt a0 listed a w rest done log st ρ W∧
   (rest=[]∨(rest.find? fun i=>EE all i&&nf all done i)=none)
 | 0,rest,done,log,st,W,hv,_=>hv.elim
 | m+1,[],done,log,st,W,hv,h=>⟨m+1,Nat.le_refl _,[],done,log,st,W,hv,h,.inl rfl⟩
 | m+1,x::r,done,log,st,W,hv,h=>by
  cases hf:(x::r).find? fun i=>EE all i&&nf all done i with
  | none=>exact⟨m+1,Nat.le_refl _,x::r,done,log,st,W,hv,h,.inr hf⟩
  | some i=>
   have IG:=List.mem_of_find?_eq_some hf;have iH:=List.find?_some hf;simp only [ai]at iH;simp only [run,hf]at hv;split at hv
   case h_2=>exact hv.elim
   rename_i o ho;split at hv
   case isFalse=>exact hv.elim
   rename_i yV;split at hv
   ·exact hv.elim
   ·rename_i g hg;split at hv
    case isFalse=>exact hv.elim
    rename_i hgs;split at hv
    case h_2=>exact hv.elim
    rename_i res Gj;split at hv
    case h_2=>exact hv.elim
    rename_i Sf;obtain⟨cu,hv⟩:=iE h.hw.kn hv;obtain⟨m',hm',q⟩:=DI.descend hT hv (h.quiet hT IG iH.2 ho yV hg hgs Gj Sf cu);exact⟨m',by omega,q⟩
def T5(all:Array Oper)(listed:Array Bool):Nat:=(ag5 all.size).countP fun i=> !kF listed i
theorem Si(hl:listed.size=all.size){i:Nat}(hi:i<all.size)(hn:kF listed i=false):T5 all (listed.setIfInBounds i true)+1≤T5 all listed:=by
 unfold T5;have key: ∀(l:List Nat),l.Nodup→i∈l→l.countP (fun j=> !kF (listed.setIfInBounds i true) j)+1≤l.countP (fun j=> !kF listed j):=by
  intro l
  induction l with
  | nil=>intro _ h;cases h
  | cons x r ih=>
   intro gE hm;rw [List.nodup_cons]at gE;rw [List.countP_cons,List.countP_cons,zi (by omega)];by_cases hx:i=x
   ·subst hx;have:r.countP (fun j=> !kF (listed.setIfInBounds i true) j)=r.countP (fun j=> !kF listed j):=List.countP_congr fun j hj=>by
     have:i≠j:=fun e=>gE.1 (e▸hj)
     rw [zi (by omega)];simp [this]
    rw [this];simp [hn]
   ·have hm':i∈r:=(List.mem_cons.1 hm).resolve_left hx;have:=ih gE.2 hm';simp only [hx,decide_false,Bool.false_or];omega
 exact key _ List.nodup_range (agJ.2 hi)
theorem Ol(h:T5 all listed=0): ∀i,i<all.size→kF listed i=true:=by
 intro i hi;unfold T5 at h;rw [List.countP_eq_zero]at h;have:=h i (agJ.2 hi);simpa using this
theorem DI.Mq(h:DI P Fs w0 all ro nt a0 listed a w rest done log st ρ W)(Dy:Ay all pm=true)(hr:Region.ready .any all listed=[]): ∀i,i<all.size→kF listed i=true:=by
 intro i
 induction i using Nat.strongRecOn with
 | _ i ih=>
  intro hi;cases hl:kF listed i with
  | true=>rfl
  | false=>
   have hoi:all[i]? =some all[i]:=Array.getElem?_eq_getElem hi;have:i∈Region.ready .any all listed:=by
    rw [mem_ready];refine⟨?_,_,hoi,fun e he hb=>?_⟩
    ·have FA:i<listed.size:=by rw [h.R_];exact hi
     unfold kF at hl;rw [agS,Array.getElem?_eq_getElem FA]at hl ⊢;exact hl
    ·have:=(wX Dy hoi).1 e he hb;exact ih e.on this (by omega)
   rw [hr]at this;cases this
theorem Ku{listed:Array Bool}{a:Act}{w:World}{m:Nat}{n:Nat}{rest:List Nat}{done:Nat}{log:List (Nat×List Nat)}{st:St}{ρ:Env}{W:List Wr}{k:List KI}{L:Nat→LC}{Kr:Env}{Lb:Nat→LC}
  (wH: ∀i,i<all.size→kF listed i=true) (hm:m≤n) (hv:VC P aq (run C m (.ug all pm rest done log::k) st) ρ L) (hle:Env.Le Kr ρ) (hL: ∀j,j<nl k→L j=Lb j)
  (h:DI P Fs w0 all ro nt a0 listed a w rest done log st ρ W):QK P C aq Fs w0 n k Kr Lb .normal a w:=by
 have W4:rest=[]:=by
  cases hr:rest with
  | nil=>rfl
  | cons x r=>
   have:=(h.rest x).1 (by rw [hr];exact agA);exact absurd (h.sub x (wH x this.1)) this.2
 subst W4;cases m with
 | zero=>exact hv.elim
 | succ m=>
  simp only [run]at hv;have hW:W.filter (fun x=>kF listed x.1)=W:=by
   rw [List.filter_eq_self];intro x hx;obtain⟨A,B,hAB⟩:=List.append_of_mem hx;obtain⟨o,ho,_⟩:=h.Sa A x B hAB;exact wH x.1 (agH.1 ho).1
  have XZ:=h.act;rw [hW]at XZ;refine⟨k,rfl,m,by omega,st,ρ,L,hle,hL,h.hw,?_,hv⟩;rw [XZ,h.NF];exact h.ha
theorem Dz{ρ:Env}{L:Nat→LC}: ∀{l:List F},VC P aq (Om l) ρ L→∀x∈l,VC P aq x ρ L
 | [],h,_,_=>h.elim
 | [x],h,y,hy=>by
  rw [agZ]at hy;exact hy▸h
 | x::y::r,h,z,hz=>by
  rcases List.mem_cons.1 hz with rfl | hz
  ·exact h.1
  ·exact Dz h.2 z hz
theorem Oo(hT:bC P C.T=true){n:Nat}(NH: ∀m,m<n→uh P C aq Fs w0 m)(vu:lN all pm=true)(Dy:Ay all pm=true){k:List KI}{Kr:Env}{Lb:Nat→LC}(gi:ED Kr k ro):
  ∀(fuel:Nat) (listed:Array Bool) (a:Act) (w:World),T5 all listed≤fuel→
   (∃m,m≤n∧∃rest done log st ρ L W,VC P aq (run C m (.ug all pm rest done log::k) st) ρ L∧Env.Le Kr ρ∧(∀j,j<nl k→L j=Lb j)∧DI P Fs w0 all ro nt a0 listed a w rest done log st ρ W)→
   wpAnyIn (FW ro) 0 P .any all (QK P C aq Fs w0 n k Kr Lb) fuel listed a w:=by
 intro fuel
 induction fuel with
 | zero=>
  intro listed a w hf ⟨m,hm,rest,done,log,st,ρ,L,W,hv,hle,hL,h⟩;have wH:=Ol (Nat.le_zero.1 hf);refine⟨?_,?_⟩
  ·cases hr:Region.ready .any all listed with
   | nil=>rfl
   | cons i r=>
    have:i∈Region.ready .any all listed:=by rw [hr];exact agA
    rw [mem_ready]at this;obtain⟨h0,o,ho,_⟩:=this;have hi:i<all.size:=(agH.1 ho).1;have hl:=wH i hi;unfold kF at hl;have FA:i<listed.size:=by rw [h.R_];exact hi
    rw [agS,Array.getElem?_eq_getElem FA]at hl h0;simp at hl h0;rw [hl]at h0;cases h0
  ·exact Ku wH hm hv hle hL h
 | succ fuel ih=>
  intro listed a w hf ⟨m,hm,rest,done,log,st,ρ,L,W,hv,hle,hL,h⟩;refine⟨fun hr=>Ku (h.Mq Dy hr) hm hv hle hL h,fun i hi=>?_⟩;rw [mem_ready]at hi;obtain⟨h0,o,ho,Cg⟩:=hi;have FA:i<all.size:=(agH.1 ho).1;have uL:kF listed i=false:=by
   have:i<listed.size:=by rw [h.R_];exact FA
   unfold kF;rw [agS,Array.getElem?_eq_getElem this]at h0 ⊢;exact h0
  have X0:T5 all (listed.setIfInBounds i true)≤fuel:=by
   have:=Si h.R_ FA uL;omega
  obtain⟨m',hm',Oq,Ot,aa1,dD,W',sO,h',Sj⟩:=DI.descend hT hv h;by_cases TZ:i∈W'.map (·.1)
  ·exact h'.pending vu Dy ho uL Cg TZ _ _ fun a' hD=>ih _ _ _ X0 ⟨m',by omega,Oq,Ot,aa1,dD,ρ,L,W',sO,hle,hL,hD⟩
  ·have Vs:i∈Oq:=(h'.rest i).2 ⟨FA,TZ⟩;have dp:nf all Ot i=true:=Mn ho fun e he hb=>(h'.done _).2 (h'.sub _ (Cg e he hb))
   rcases Sj with rfl | Sj
   ·cases Vs
   ·cases m' with
    | zero=>exact sO.elim
    | succ m'=>
     cases W4:Oq with
     | nil=>rw [W4]at Vs;cases Vs
     | cons x r=>
      rw [W4]at sO Sj;simp only [run,Sj]at sO;have hiL:i∈(x::r).filter (nf all Ot):=agP.2 ⟨W4▸Vs,dp⟩;have sO:=Dz sO _ (ag9.2 ⟨i,hiL,rfl⟩);simp only [ho]at sO;split at sO
      case isFalse=>exact sO.elim
      rename_i yV;rw [←W4]at sO;refine DI.effect (NH m' (by omega)) (gi.le hle) h' vu Dy ho Vs uL Cg yV sO _ _ fun a' w' hq=>ih _ _ _ X0 ?_
      obtain⟨m2,XE,X1,X2,log2,Gk,Kv,L2,W2,q1,q2,q3,q4⟩:=hq;exact⟨m2,by omega,X1,X2,log2,Gk,Kv,L2,W2,q1,hle.trans q2,fun j hj=>(q3 j hj).trans (hL j hj),q4⟩
theorem HW.drew(h:HW Fs w0 st ρ w)(d:Nat):HW Fs w0 st ρ {w with drawn:=d}:=by
 refine⟨h.lens,h.lX,h.gF,h.oO,h.kn,?_,h.same.trans ⟨rfl,rfl,rfl,Nat.le_refl _⟩,h.mP⟩;obtain⟨S,hS⟩:=h.own;exact⟨S,hS.keep (Nat.le_refl _) fun _ _=>rfl⟩
theorem Gl(hT:bC P C.T=true)(hm:P.follows .mixedOrders=true){n:Nat}(NH: ∀m,m<n→uh P C aq Fs w0 m):II P C aq Fs w0 n:=by
 intro ro id all pm k st ρ L a w hv vu Dy hw ha gi;refine wpIn_region_any hm (Oo (ro:=ro) (nt:=st.nt) (a0:=a) hT NH vu Dy gi _ _ _ _ ?_ ⟨n,Nat.le_refl _,_,_,_,_,ρ,L,[],hv,Env.Le.refl _,fun _ _=>rfl,?_⟩)
 ·unfold T5;exact Nat.le_trans List.countP_le_length (by simp)
 ·have Ve: ∀i,kF (Array.replicate all.size false) i=false:=by
   intro i;unfold kF;rw [agS];by_cases hi:i<all.size
   ·simp [hi]
   ·rw [Array.getElem?_eq_none (by simpa using hi)];rfl
  refine⟨hw.drew _,rfl,rfl,ha,List.nodup_nil,fun i=>by simp,fun i=>by simp,fun i hi=>?_,by simp,fun p o _ hp=>?_,fun W1 x W2 hW=>?_,fun W1 x W2 hW=>?_⟩
  ·rw [Ve]at hi;cases hi
  ·rw [Ve]at hp;cases hp
  ·simp at hW
  ·simp at hW
end
section
variable {P:Program} {C:Ctx} {aq:Value→List HP→Prop} {Fs:List HP} {w0:World}
theorem DA(hT:bC P C.T=true){n N:Nat}(hnN:n<N)(yh: ∀m,m<N→rk P C aq Fs w0 m){ro:Option Nat}{c:Code}{fd:Func}{f:Nat}(hf:P.funcs[f]? =some fd)(hb:fd.body=some c){k:List KI}{st:St}{ρ Kr:Env}{L Lb:Nat→LC}{w:World}
  {az:List SV} {l r fn:Nat} {nt:NT} {fr:List (Nat×SV)} {ps:Array Tmp} {x y:Code} {a':Act}
  (hv:VC P aq (run C n (.code c:: .rf l r fn nt fr ps x y fd::k) (fW st f ⟨fd.ntmps,[]⟩ (eP 0 az))) ρ L) (jx:SV.qz st.aS az=true) (hw:HW Fs w0 st ρ w)
  (gi:ED ρ (.rf l r fn nt fr ps x y fd::k) none) (T6:ED ρ k ro) (TS:mH st.aS fr=true) (IJ:nt.ds.all (MK.sc st.aS)=true) (ha:HA fr nt ρ a') (hle:Env.Le Kr ρ) (hL: ∀j,j<nl k→L j=Lb j) (hl:l<st.aS.b):
  CallsIn (FW none) 0 P f (SV.bQ ρ az).toArray w (rangePost (FW ro) 0 P (ρ.bv.getD l 0) (QK P C aq Fs w0 N k Kr Lb) a'):=by
 refine callsIn_of_wp_marks hf hb trivial ?_ rfl;have X3:HW Fs w0 (fW st f ⟨fd.ntmps,[]⟩ (eP 0 az)) ρ w:=⟨hw.lens,zj az 0 jx,hw.gF,hw.oO,hw.kn,hw.own,hw.same,rfl⟩;refine wpIn_mono (yh n hnN none c _ _ ρ L _ w hv X3 (AE az fd.ntmps) gi) ?_;have key: ∀a1 w1,At P C aq Fs w0 n (.rf l r fn nt fr ps x y fd::k) ρ L a1 w1→LeavesInM (FW none) 0 P fd a1.tmps (rangePost (FW ro) 0 P (ρ.bv.getD l 0) (QK P C aq Fs w0 N k Kr Lb) a') a1.defers .returning w1:=by
  intro a1 w1 ⟨m,hm,dD,bI,L',h1,h2,h3,h4,h5⟩;cases m with
  | zero=>exact h5.elim
  | succ m=>
   simp only [run]at h5;split at h5
   case h_2=>exact h5.elim
   rename_i Gk BW;have Ou:Gk.fr=dD.fr∧Gk.nt=dD.nt∧Gk.aS=dD.aS:=by
    unfold nV at BW;rw [agz]at BW;obtain⟨mQ,_,rfl⟩:=BW;exact⟨rfl,rfl,rfl⟩
   split at h5
   case h_2=>exact h5.elim
   rename_i v i r' s j hv IK;split at h5
   ·exact h5.elim
   ·rename_i X4;refine oF BW h3 h4 fun w2 Gm=>?_
    refine⟨_,qb hT Gm (nt:=dD.nt) (by rw [Ou.1];exact h4) hv,?_⟩;have kP:=mR Gm IK;have X5:bI.bv.getD l 0=ρ.bv.getD l 0:=((Env.Le.agree hw.lens h1).b l hl).symm;rw [X5]at kP;refine⟨j.code,_,run_endLoop kP (by cases s<;>first | (simp [RS.st];done) | exact absurd rfl X4),?_⟩;have Kt:=EF Gm IK .exhausted j;rw [X5]at Kt;have eL:=gK.le hw.lens Gm.lens h1;have Ov:HW Fs w0 (fW {Gk with hp:=Gk.hp.set i (.mg l r' .exhausted j)} fn nt fr) bI _:=⟨Kt.lens,cO eL TS,Kt.gF,Kt.oO,Kt.kn,Kt.own,Kt.same,dz eL IJ⟩;have ha4:HA fr nt bI a':=ha.more TS IJ (Env.Le.agree hw.lens h1);have U_: ∀q,q<nl k→L' q=Lb q:=fun q hq=>(h2 q hq).trans (hL q hq)
    cases j with
    | none=>
     exact⟨k,rfl,m,by omega,_,bI,L',hle.trans h1,U_,Ov,ha4,h5⟩
    | ret=>
     exact wpIn_mono (yh m (by omega) ro .ret k _ bI L' a' _ h5 Ov ha4 (T6.le h1)) fun e a w hq=>hq.mono (by omega) (hle.trans h1) U_
    | exit id=>
     exact wpIn_mono (yh m (by omega) ro (.exit id) k _ bI L' a' _ h5 Ov ha4 (T6.le h1)) fun e a w hq=>hq.mono (by omega) (hle.trans h1) U_
 intro e a1 w1 hq;obtain⟨k',hk,ew⟩:=hq;cases e with
 | normal=>cases hk;exact key a1 w1 ew
 | ret=>cases hk;exact key a1 w1 ew
 | exit id=>cases hk
 | goto l=>cases hk
 | panic l=>cases hk
 | outgrown=>cases hk
theorem Mr{ρ:Env}{c:cF}(h:gK ρ c)(l:Nat)(q:Loop):gK (ρ.ext ⟨[l],[],[],[],[],[],[q]⟩) {c with b:=c.b+1,r:=c.r+1}:=
 ⟨by simp [Env.ext,h.b],by simp [Env.ext,h.v],by simp [Env.ext,h.i],by simp [Env.ext,h.a],by simp [Env.ext,h.bo],by simp [Env.ext,h.p],by simp [Env.ext,h.r]⟩
theorem Mt{ρ:Env}{c:cF}(h:gK ρ c)(d l:Nat)(q:Loop):gK (ρ.ext ⟨[d,l],[],[],[],[],[],[q]⟩) {c with b:=c.b+2,r:=c.r+1}:=
 ⟨by simp [Env.ext,h.b],by simp [Env.ext,h.v],by simp [Env.ext,h.i],by simp [Env.ext,h.a],by simp [Env.ext,h.bo],by simp [Env.ext,h.p],by simp [Env.ext,h.r]⟩
theorem uj(w:World)(o:Obj):gu w (w.alloc o):=⟨rfl,rfl,rfl,by simp⟩
theorem Gn(hT:bC P C.T=true)(DB:bf P C.FT){n:Nat}(yh: ∀m,m<n→rk P C aq Fs w0 m):Ow P C aq Fs w0 n:=by
 intro ro g ps x y k st ρ L a w hv hw ha gi;cases n with
 | zero=>exact hv.elim
 | succ n=>
  have hn:n<n+1:=Nat.lt_succ_self n;simp only [run]at hv;split at hv
  case h_2=>exact hv.elim
  rename_i f kp hg;have ZP:=fg ha.eval hg;split at hv
  ·exact hv.elim
  rename_i fd AF;have IG:=List.mem_of_find?_eq_some AF;have Il:=List.find?_some AF;simp only [beq_iff_eq]at Il;obtain⟨hf,Gp⟩:=DB _ IG;simp only at hf Gp;rw [Il]at hf;split at hv
  ·exact hv.elim
  rename_i c hb;split at hv
  case isFalse=>exact hv.elim
  rename_i Kx;have Vu: ¬fd.name= "runtime.NumGoroutine" :=by simpa using Gp
  have Gj: ∀(l:Nat) (w1:World),(resolve a.eval (rangeCall g l) 0).run P w1= .ok {target:= .fn (.func f) (SV.bQ ρ kp).toArray,args:= #[.func (.yield l) #[] #[]]} w1:=by
   intro l w1;simp only [resolve,ZP,SV.val,Deferred.ofValue];simp [Act.eval]
  have hinv: ∀(l:Nat) (w1:World),(invoke (.fn (.func f) (SV.bQ ρ kp).toArray) #[.func (.yield l) #[] #[]]).run P w1= .ok (.enter f (#[.func (.yield l) #[] #[]]++(SV.bQ ρ kp).toArray)) w1:=by
   intro l w1;simp [invoke,callFunc,hf,Vu,hb]
  have L9:=gi.ro;split at hv
  ·
   rename_i har;rw [har]at L9;simp only at L9;subst L9;refine wpIn_rangeFunc fun fn _=>?_
   have e1:=run_enterLoop_outer (P:=P) (w:=w) fn a.tmps ps x y;refine⟨_,_,_,_,_,f,_,_,e1,Gj _ _,fun _ _=>trivial,hinv _ _,fun h=>(by cases h),?_⟩;simp only [VC]at hv;have xV:=hv w.heap.size (w.heap.size+1) {state:= .ready,pending:=none,fn,tmps:=a.tmps,params:=ps,assign:=x,body:=y,defers:=w.heap.size};generalize hq:({state:= .ready,pending:=none,fn,tmps:=a.tmps,params:=ps,assign:=x,body:=y,defers:=w.heap.size}:Loop)=q at xV e1 ⊢;have hle:=Env.gL ρ ⟨[w.heap.size,w.heap.size+1],[],[],[],[],[],[q]⟩;have eV:=Env.Le.agree hw.lens hle;have hl:=Mt hw.lens w.heap.size (w.heap.size+1) q;have eL:=gK.le hw.lens hl hle;have b1:(ρ.ext ⟨[w.heap.size,w.heap.size+1],[],[],[],[],[],[q]⟩).bv.getD st.aS.b 0=w.heap.size:=by simp [Env.ext,←hw.lens.b]
   have b2:(ρ.ext ⟨[w.heap.size,w.heap.size+1],[],[],[],[],[],[q]⟩).bv.getD (st.aS.b+1) 0=w.heap.size+1:=by simp [Env.ext,←hw.lens.b]
   have b3:(ρ.ext ⟨[w.heap.size,w.heap.size+1],[],[],[],[],[],[q]⟩).lr.getD st.aS.r iG=q:=by simp [Env.ext,←hw.lens.r]
   have hqr:({q with state:=RS.ready.st,pending:=Jump.none.code}:Loop)=q:=by subst hq;rfl
   have eN:q.params=ps:=by subst hq;rfl
   have hqa:q.assign=x:=by subst hq;rfl
   have ZQ:q.body=y:=by subst hq;rfl
   have hqt:q.tmps=a.tmps:=by subst hq;rfl
   clear hq;generalize aa7:ρ.ext ⟨[w.heap.size,w.heap.size+1],[],[],[],[],[],[q]⟩=sj at xV hle eV hl b1 b2 b3;have X6:aU ((st.hp.map (Ck.den sj)++[zN w.heap.size])++Fs) (w.alloc (.deferred (some []))):=by
    refine aU.add (by rw [←kX eV hw.gF];exact hw.own) _ (fun k=>k=w.heap.size) (by simp) (fun k hk=>heap_alloc_old w _ hk) ⟨fun _=>Iff.rfl,heap_alloc_new w _⟩ (fun k hk=>by simp;omega)
   have Ox:aU (((st.hp.map (Ck.den sj)++[zN w.heap.size])++[lC (w.heap.size+1) q])++Fs) ((w.alloc (.deferred (some []))).alloc (.loop q)):=by
    have fx:(w.alloc (.deferred (some []))).heap.size=w.heap.size+1:=by simp
    refine aU.add X6 _ (fun k=>k=w.heap.size+1) (by simp) (fun k hk=>heap_alloc_old _ _ hk) ⟨fun _=>Iff.rfl,?_⟩ (fun k hk=>by simp;omega);have:=heap_alloc_new (w.alloc (.deferred (some []))) (.loop q)
    rwa [fx]at this
   have zh:HW Fs w0 {st with hp:=st.hp++[.Mb st.aS.b]++[.mg (st.aS.b+1) st.aS.r .ready .none],aS:={st.aS with b:=st.aS.b+2,r:=st.aS.r+1}} sj ((w.alloc (.deferred (some []))).alloc (.loop q)):=by
    refine⟨hl,cO eL hw.lX,?_,fk eL hw.oO,fun b hb=>(BE.gT eV (agv.1 hw.oO b hb)).1 (hw.kn b hb),?_,(hw.same.trans (uj _ _)).trans (uj _ _),dz eL hw.mP⟩
    ·simp only [List.all_append,ai,List.all_cons,List.all_nil,Ck.sc,agM];exact⟨⟨i_ eL hw.gF,by omega,trivial⟩,⟨by omega,by omega⟩,trivial⟩
    ·simp only [List.map_append,agW,List.map_nil,Ck.den,b1,b2,b3,hqr];exact Ox
   have Oy:mH {st.aS with b:=st.aS.b+2,r:=st.aS.r+1} st.fr=true:=cO eL hw.lX;have aa8:(MK.one st.aS.b::st.nt.ds).all (MK.sc {st.aS with b:=st.aS.b+2,r:=st.aS.r+1})=true:=by
    rw [List.all_cons,ai,MK.sc,agM];exact⟨by show st.aS.b<st.aS.b+2;omega,dz eL hw.mP⟩
   have IL:=ha.more hw.lX hw.mP eV;have Gq:ED sj (.rf (st.aS.b+1) st.aS.r st.fn ⟨st.nt.n,.one st.aS.b::st.nt.ds⟩ st.fr ps x y fd::k) none:=by
    refine⟨fun l r fn nt fr ps' x' y' X7 hm=>?_,rfl⟩;rcases List.mem_cons.1 hm with hm | hm
    ·cases hm;refine⟨sj,_,hl,Env.Le.refl _,Oy,by simp,by rw [b3,eN],by rw [b3,hqa],by rw [b3,ZQ],?_⟩;rw [b3,hqt];exact⟨rfl,IL.size,IL.slots⟩
    ·exact(gi.le hle).rf l r fn nt fr ps' x' y' X7 hm
   have rl:=DA (Lb:=L) hT hn yh hf hb (a':={a with defers:=[{target:= .collected w.heap.size,args:= #[]}]++a.defers}) xV
    (by simp only [SV.qz,SV.sc,ai,agM];exact⟨by omega,SV.fj eL Kx⟩) zh Gq (gi.le hle) Oy aa8
    ⟨by rw [ha.defers,vA eV hw.mP];simp only [marks,List.flatMap_cons,MK.blocks,agW,b1,List.singleton_append],IL.size,IL.slots⟩ hle (fun _ _=>rfl) (by simp)
   rw [b2]at rl;have kG:(SV.bQ sj (.LB (st.aS.b+1)::kp)).toArray= #[.func (.yield (w.heap.size+1)) #[] #[]]++(SV.bQ ρ kp).toArray:=by
    simp only [SV.bQ,SV.val,b2,(SV.gg eV Kx).1];simp
   rw [kG]at rl;exact rl
  ·
   rename_i l0 har;rw [har]at L9;simp only at L9;obtain⟨yi,c0,k1,k2,k3,k4⟩:=L9;rw [(Env.Le.agree k1 k2).b l0 k3]at k4;split at hv
   case h_2=>exact hv.elim
   rename_i rc IK;obtain⟨i0,r0,s0,j0⟩:=rc;have kP:=mR hw IK;refine wpIn_rangeFunc fun fn _=>?_
   have e1:=run_enterLoop_inner (P:=P) (w:=w) kP fn a.tmps ps x y;rw [show(FW ro).round=ro from rfl,k4];refine⟨_,_,_,_,_,f,_,_,e1,Gj _ _,fun _ _=>trivial,hinv _ _,fun h=>(by cases h),?_⟩;simp only [VC]at hv;have xV:=hv w.heap.size {state:= .ready,pending:=none,fn,tmps:=a.tmps,params:=ps,assign:=x,body:=y,defers:=({ρ.lr.getD r0 iG with state:=s0.st,pending:=j0.code}:Loop).defers};generalize hq:({state:= .ready,pending:=none,fn,tmps:=a.tmps,params:=ps,assign:=x,body:=y,defers:=({ρ.lr.getD r0 iG with state:=s0.st,pending:=j0.code}:Loop).defers}:Loop)=q at xV e1 ⊢;have hle:=Env.gL ρ ⟨[w.heap.size],[],[],[],[],[],[q]⟩;have eV:=Env.Le.agree hw.lens hle;have hl:=Mr hw.lens w.heap.size q;have eL:=gK.le hw.lens hl hle;have b2:(ρ.ext ⟨[w.heap.size],[],[],[],[],[],[q]⟩).bv.getD st.aS.b 0=w.heap.size:=by simp [Env.ext,←hw.lens.b]
   have b3:(ρ.ext ⟨[w.heap.size],[],[],[],[],[],[q]⟩).lr.getD st.aS.r iG=q:=by simp [Env.ext,←hw.lens.r]
   have hqr:({q with state:=RS.ready.st,pending:=Jump.none.code}:Loop)=q:=by subst hq;rfl
   have eN:q.params=ps:=by subst hq;rfl
   have hqa:q.assign=x:=by subst hq;rfl
   have ZQ:q.body=y:=by subst hq;rfl
   have hqt:q.tmps=a.tmps:=by subst hq;rfl
   clear hq;generalize aa7:ρ.ext ⟨[w.heap.size],[],[],[],[],[],[q]⟩=sj at xV hle eV hl b2 b3;have Ox:aU ((st.hp.map (Ck.den sj)++[lC w.heap.size q])++Fs) (w.alloc (.loop q)):=by
    refine aU.add (by rw [←kX eV hw.gF];exact hw.own) _ (fun k=>k=w.heap.size) (by simp) (fun k hk=>heap_alloc_old w _ hk) ⟨fun _=>Iff.rfl,heap_alloc_new w _⟩ (fun k hk=>by simp;omega)
   have zh:HW Fs w0 {st with hp:=st.hp++[.mg st.aS.b st.aS.r .ready .none],aS:={st.aS with b:=st.aS.b+1,r:=st.aS.r+1}} sj (w.alloc (.loop q)):=by
    refine⟨hl,cO eL hw.lX,?_,fk eL hw.oO,fun b hb=>(BE.gT eV (agv.1 hw.oO b hb)).1 (hw.kn b hb),?_,hw.same.trans (uj _ _),dz eL hw.mP⟩
    ·simp only [List.all_append,ai,List.all_cons,List.all_nil,Ck.sc,agM];exact⟨i_ eL hw.gF,⟨by omega,by omega⟩,trivial⟩
    ·simp only [List.map_append,agW,List.map_nil,Ck.den,b2,b3,hqr];exact Ox
   have Oy:mH {st.aS with b:=st.aS.b+1,r:=st.aS.r+1} st.fr=true:=cO eL hw.lX;have IL:=ha.more hw.lX hw.mP eV;have Gq:ED sj (.rf st.aS.b st.aS.r st.fn st.nt st.fr ps x y fd::k) none:=by
    refine⟨fun l r fn nt fr ps' x' y' X7 hm=>?_,rfl⟩;rcases List.mem_cons.1 hm with hm | hm
    ·cases hm;refine⟨sj,_,hl,Env.Le.refl _,Oy,by simp,by rw [b3,eN],by rw [b3,hqa],by rw [b3,ZQ],?_⟩;rw [b3,hqt];exact⟨rfl,IL.size,IL.slots⟩
    ·exact(gi.le hle).rf l r fn nt fr ps' x' y' X7 hm
   have rl:=DA (Lb:=L) (ro:=ro) hT hn yh hf hb (a':={a with defers:=[]++a.defers}) xV
    (by simp only [SV.qz,SV.sc,ai,agM];exact⟨by omega,SV.fj eL Kx⟩) zh Gq (gi.le hle) Oy (dz eL hw.mP)
    ⟨IL.defers,IL.size,IL.slots⟩ hle (fun _ _=>rfl) (by simp)
   rw [b2]at rl;have kG:(SV.bQ sj (.LB st.aS.b::kp)).toArray= #[.func (.yield w.heap.size) #[] #[]]++(SV.bQ ρ kp).toArray:=by
    simp only [SV.bQ,SV.val,b2,(SV.gg eV Kx).1];simp
   rw [kG]at rl;rw [k4]at rl;exact rl
end
section
variable {P:Program} {C:Ctx} {aq:Value→List HP→Prop} {Fs:List HP} {w0:World}
theorem Mu(hT:bC P C.T=true)(DB:bf P C.FT)(Gr:gN P C)(hm:P.follows .mixedOrders=true)(n:Nat):rk P C aq Fs w0 n∧uh P C aq Fs w0 n∧II P C aq Fs w0 n:=by
 induction n using Nat.strongRecOn with
 | _ n ih=>exact⟨Gs hT (fun m hm=>(ih m hm).1) (fun m hm=>(ih m hm).2.1) (fun m hm=>(ih m hm).2.2) (Gn hT DB fun m hm=>(ih m hm).1),Gt hT DB Gr (fun m hm=>(ih m hm).1) (fun m hm=>(ih m hm).2.1),Gl hT hm (fun m hm=>(ih m hm).2.1)⟩
theorem au.ml(hT:bC P C.T=true)(DB:bf P C.FT)(hm:P.follows .mixedOrders=true){f:Nat}{fd:Func}(hf:P.funcs[f]? =some fd){args:List SV}{hp:List Ck}{aS:cF}{ρ:Env}(hl:gK ρ aS)
  (h:VC P aq (eE C f args hp aS fd) ρ fun _=>LC.none) (Gr:gN P C:=by exact gN.none rfl):au P f (SV.bQ ρ args) (hp.map (Ck.den ρ)) aq:=by
 intro w Fs cU;unfold eE at h;split at h
 case h_2=>exact h.elim
 rename_i c hb;split at h
 case isFalse=>exact h.elim
 rename_i jx;simp only [ai]at jx;have hw:HW Fs w {fn:=f,fr:=eP 0 args,hp:=hp,aS:=aS,nt:=⟨fd.ntmps,[]⟩} ρ w:=
  ⟨hl,zj args 0 jx.1,jx.2,rfl,fun b hb=>(by cases hb),cU,gu.refl w,rfl⟩
 have T4:=(Mu (aq:=aq) (Fs:=Fs) (w0:=w) hT DB Gr hm 100000).1 none c _ _ ρ _ _ w h hw (AE args fd.ntmps) ⟨fun l r fn nt fr ps x y fd hm=>(by simp at hm),rfl⟩;have key: ∀a' w',At P C aq Fs w 100000 [.top fd] ρ (fun _=>LC.none) a' w'→LeavesInM (FW none) 0 P fd a'.tmps (fun e w'=> ∃v hs,e= .returned v∧aq v hs∧aU (hs++Fs) w'∧gu w w') a'.defers .returning w':=by
  intro a' w' ⟨m,hm,dD,bI,L',h1,h2,h3,h4,h5⟩;cases m with
  | zero=>exact h5.elim
  | succ m=>
   simp only [run]at h5;split at h5
   case h_2=>exact h5.elim
   rename_i Gk BW;have Ou:Gk.fr=dD.fr:=by
    unfold nV at BW;rw [agz]at BW;obtain⟨mQ,_,rfl⟩:=BW;rfl
   split at h5
   ·rename_i v hv;refine oF BW h3 h4 fun w2 Gm=>?_
    exact⟨_,qb hT Gm (nt:=dD.nt) (by rw [Ou];exact h4) hv,_,_,rfl,h5,Gm.own,Gm.same⟩
   ·exact h5.elim
 have fin: ∀e a' w',QK P C aq Fs w 100000 [.top fd] ρ (fun _=>LC.none) e a' w'→bodyPostM (FW none) 0 P fd (fun e w'=> ∃v hs,e= .returned v∧aq v hs∧aU (hs++Fs) w'∧gu w w') e a' w':=by
  intro e a' w' hq;obtain⟨k',hk,ew⟩:=hq;cases e with
  | normal=>cases hk;exact key a' w' ew
  | ret=>cases hk;exact key a' w' ew
  | exit id=>cases hk
  | goto l=>cases hk
  | panic l=>cases hk
  | outgrown=>cases hk
 have main:CallsIn (FW none) 0 P f (SV.bQ ρ args).toArray w (fun e w'=> ∃v hs,e= .returned v∧aq v hs∧aU (hs++Fs) w'∧gu w w'):=by
  refine callsIn_of_wp_marks hf hb trivial (wpIn_mono T4 ?_) rfl;exact fin
 have main':CallsIn Fence.wide 0 P f (SV.bQ ρ args).toArray w (fun e w'=> ∃v hs,e= .returned v∧aq v hs∧aU (hs++Fs) w'∧gu w w'):=main;exact callsIn_wide.1 main'
end
theorem bf.nil{P:Program}:bf P []:=fun x hx=>(by cases hx)
theorem bf.cons{P:Program}{FT:List (Nat×Func)}{f:Nat}{fd:Func}(h:P.funcs[f]? =some fd)(hn:(fd.name== "runtime.NumGoroutine")=false)(hr:bf P FT):bf P ((f,fd)::FT):=by
 intro x hx;rcases List.mem_cons.1 hx with rfl | hx
 ·exact⟨h,hn⟩
 ·exact hr x hx
def BE.IM(b:BE):Option Bool:=if b.sc {}then some (b.den uk)else none
def F.jo:F→Bool
 | .vc b r=>b.sure&&r.jo
 | .fork c t e=>match c.IM with
  | some true=>t.jo
  | some false=>e.jo
  | none=>t.jo&&e.jo
 | .ret (.bool b) _=>b.sure
 | .yL r=>r.jo
 | .zR r=>r.jo
 | .cC r=>r.jo
 | .wD _ r=>r.jo
 | .both a b=>a.jo&&b.jo
 | _=>false
theorem F.IN{P:Program}{f:F}(ρ:Env)(L:Nat→LC)(h:f.jo=true):VC P (fun v _=>v= .bool true) f ρ L:=by
 induction f generalizing ρ L with
 | vc b r ih=>
  simp only [F.jo,ai]at h;exact⟨(BE.cq ρ b).1 (w7 h.1 ρ),fun _=>ih ρ L h.2⟩
 | fork c t e Q_ Rb=>
  simp only [F.jo]at h;split at h
  ·rename_i hc;unfold BE.IM at hc;split at hc
   ·rename_i hs;simp only [agy]at hc;exact⟨fun _=>Q_ ρ L h,fun hn=>absurd ((BE.cq ρ c).1 (by rw [qc hs];exact hc)) hn⟩
   ·cases hc
  ·rename_i hc;unfold BE.IM at hc;split at hc
   ·rename_i hs;simp only [agy]at hc;refine⟨fun hn=>?_,fun _=>Rb ρ L h⟩;have:=(BE.cq ρ c).2 hn;rw [qc hs,hc]at this;cases this
   ·cases hc
  ·simp only [ai]at h;exact⟨fun _=>Q_ ρ L h.1,fun _=>Rb ρ L h.2⟩
 | ret v hp=>
  cases v with
  | bool b=>simp only [F.jo]at h;simp only [VC,SV.val,w7 h ρ]
  | _=>simp [F.jo]at h
 | yL r ih=>exact fun _=>ih _ L h
 | zR r ih=>exact fun _=>ih _ L h
 | cC r ih=>exact ih _ L h
 | wD b r ih=>cases b with
  | true=>exact fun _ _ _=>ih _ L h
  | false=>exact fun _ _=>ih _ L h
 | fail=>simp [F.jo]at h
 | call=>simp [F.jo]at h
 | ext=>simp [F.jo]at h
 | loop=>simp [F.jo]at h
 | back=>simp [F.jo]at h
 | join=>simp [F.jo]at h
 | meet=>simp [F.jo]at h
 | ghost=>simp [F.jo]at h
 | both a b mV tS=>
  simp only [F.jo,ai]at h;exact⟨mV ρ L h.1,tS ρ L h.2⟩
theorem au.law{P:Program}{f:Nat}{args:List Value}{pre:List HP}(h:au P f args pre fun v _=>v= .bool true)(w:World)(cU:aU (pre++[Eh w.heap.size w]) w):
  Calls P f args.toArray w fun e w'=>e= .returned (.bool true)∧RowKit.Below w.heap.size w w':=by
 refine(h w _ cU).mono ?_;rintro e w' ⟨v,hs,rfl,rfl,⟨S,hS⟩,yj⟩;refine⟨rfl,?_⟩;have:=(hS.at_ hs.length (Eh w.heap.size w) (by simp)).1;exact⟨yj.os,yj.tape,yj.output,yj.size,fun k hk=>this.2 k hk⟩
end Go.RX
