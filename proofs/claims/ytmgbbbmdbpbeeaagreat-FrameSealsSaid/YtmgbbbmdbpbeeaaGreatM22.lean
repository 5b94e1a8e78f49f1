/- Executor. -/
import Derived.Test.YtmgbbbmdbpbeeaaGreatM21
open Array renaming getD_eq_getD_getElem? → afi, getElem?_eq_some_iff → ae5
open Bool renaming and_eq_true → ai
open Go.Region renaming binds → afJ
open List renaming all_eq_true → aeT, map_cons → afj, mem_cons → afd, mem_cons_self → aeZ, mem_filter → afk, mem_range → afg, mem_singleton → afC
open Nat renaming blt_eq → afb, lt_of_lt_of_le → ae_
open Option renaming map_eq_some_iff → aeY
open Option.some renaming injEq → aeX
namespace Go.RX
section
variable {P:Program} {C:Ctx} {ar:Value→List HP→Prop} {Fs:List HP} {w0:World} {all:Array Oper} {pm:List Nat}
variable {ro:Option Nat} {nt:NT} {a0:Act} {aV:Array Bool} {a:Act} {w:World} {rest:List Nat} {done:Nat} {log:List (Nat×List Nat)} {st:St} {ρ:Env} {W:List Wr}
theorem Oper.Mz{F:Fence}{n:Nat}{o:Oper}{K:Act→World→Prop}{Q:Exit→Act→World→Prop}(hh:o.wpIn F n P a w K Q):
  o.wpIn F n P a w (fun a' w'=>K a' w'∧(a'.defers≠a.defers∨∃u,a'=a.put o.dst u)) Q:=by
 unfold Oper.wpIn at*;refine⟨hh.1,?_⟩;have hh:=hh.2;generalize (o.semAt F.round a.eval).run P w=r at*;cases r with
 | ok x w'=>
  cases x<;>simp only [Oper.uponIn]at hh ⊢ <;>
   first
    | exact⟨hh,.inr ⟨_,rfl⟩⟩
    | exact⟨hh,.inl (by rw [put_defers];simp)⟩
    | exact⟨hh.1,CallsIn.mono hh.2 (fun e VL he=>by cases e<;>first | exact⟨he,.inr ⟨_,rfl⟩⟩ | exact he)⟩
    | exact⟨hh.1,RowsIn.mono hh.2 (fun _ _ he=>⟨he,.inr ⟨_,rfl⟩⟩)⟩
    | exact⟨hh.1,RoundIn.mono hh.2 (fun e VL he=>by cases e<;>first | exact⟨he,.inr ⟨_,rfl⟩⟩ | exact he)⟩
    | exact hh
 | halt x w'=>cases x<;>simp only [Oper.uponIn]at hh ⊢ <;>exact hh
theorem Oper.Gi{F:Fence}{n:Nat}{o:Oper}{K K':Act→World→Prop}{Q Q':Exit→Act→World→Prop}(h: ∀a w,K a w→K' a w)(hq: ∀c a w,¬Q (.panic c) a w)(ho: ¬LetsOut Q)
  (hh:o.wpIn F n P a w K Q):o.wpIn F n P a w K' Q':=by
 unfold Oper.wpIn at*;refine⟨hh.1,?_⟩;have hh:=hh.2;generalize (o.semAt F.round a.eval).run P w=r at*;cases r with
 | ok x w'=>
  cases x<;>simp only [Oper.uponIn]at hh ⊢ <;>
   first
    | exact h _ _ hh
    | exact⟨hh.1,CallsIn.mono hh.2 (fun e VL he=>by cases e<;>first | exact h _ _ he | exact absurd he (hq _ _ _) | exact absurd he ho)⟩
    | exact⟨hh.1,RowsIn.mono hh.2 (fun _ _ he=>h _ _ he)⟩
    | exact⟨hh.1,RoundIn.mono hh.2 (fun e VL he=>by cases e<;>first | exact h _ _ he | exact absurd he (hq _ _ _) | exact absurd he ho)⟩
 | halt x w'=>cases x<;>simp only [Oper.uponIn]at hh ⊢ <;>first | exact absurd hh (hq _ _ _) | exact hh
theorem J9{c:cP}{hp kT:List Ck}{rd:List Nat}{ρ bI:Env}(h:kept c hp kT rd=true)(eD:fQ c ρ bI){j:Nat}(hj:j∈rd){a:Ck}(ha:hp[j]? =some a):
  ∃b,kT[j]? =some b∧b.den bI=a.den ρ:=by
 have h1:=aeT.1 h j hj;simp only [ha]at h1;split at h1
 ·rename_i x b hx hb;cases hx;split at h1
  ·rename_i l hl;refine⟨b,hb,(qL eD.va hl fun y hy=>qJ eD (aeT.1 h1 y hy)).symm⟩
  ·cases h1
 ·rename_i hx;cases hx
 ·cases h1
theorem DI.effect{n:Nat}(Lh:rD P C ar Fs w0 n){k:List KI}(fK:BA ρ k ro)(h:DI P Fs w0 all ro nt a0 aV a w rest done log st ρ W)(sN:j4 all pm=true)(Aw:xU all pm=true){e:Nat}{o:Oper}(he:all[e]? =some o)(her:e∈rest)
  (rS:jr aV e=false) (n8: ∀x∈o.after,afJ .any x=true→jr aV x.on=true) (vV:pB st o.dst=true) {L:Nat→LC}
  (hv:VC P ar (run C n (.ops all [o]:: .MA all pm e rest done log st.fn st.nt st.fr st.hp st.bd::k) {st with fr:=restrict st.fr (slotsOf all o)}) ρ L) (Q:Exit→Act→World→Prop) (K:Act→World→Prop)
  (hK: ∀a' w',(∃m,m<n∧∃rest done log st bI L' W,VC P ar (run C m (.rC all pm rest done log::k) st) bI L'∧Env.Le ρ bI∧(∀j,j<nl k→L' j=L j)∧DI P Fs w0 all ro nt a0 (aV.setIfInBounds e true) a' w' rest done log st bI W)→K a' w'):
  wpOpIn (FW ro) 0 P all Q e K a w:=by
 have YV:e ∉ W.map (·.1):=((h.rest e).1 her).2;have hel:e<aV.size:=by rw [h.P_];exact(ae5.1 he).1
 have Qc:a.defers=(lJ a0 W).defers:=by rw [h.act,jZ,jZ]
 have fx:nt.n≤a.tmps.size:=by rw [h.act,nh,←nh W];exact h.ha.size
 have ha:HA (restrict st.fr (slotsOf all o)) nt ρ a:=by
  refine uZ h.ha (fun s hs=>?_) Qc fx;rw [h.act];have:=u7 (a0:=a0) (aV:=aV) (W1:=W) (tail:=[]) (s:=s) (fun y hy H5=>h.before sN Aw he n8 (tail:=[]) (by simp) YV (.inl hs) y hy H5) (fun y hy=>by cases hy)
  rwa [List.append_nil]at this
 have hw:HW Fs w0 {st with fr:=restrict st.fr (slotsOf all o)} ρ w:=
  ⟨h.hw.lens,aeT.2 fun x hx=>aeT.1 h.hw.kd x (afk.1 hx).1,h.hw.fm,h.hw.mL,h.hw.kn,h.hw.own,h.hw.same,h.hw.kS⟩
 have RZ:=Lh ro all [o] _ _ ρ L a w hv hw (by rw [show({st with fr:=restrict st.fr (slotsOf all o)}:St).nt=st.nt from rfl,h.FD];exact ha) (fK.push rfl);have fin: ∀a' w',QK P C ar Fs w0 n (.MA all pm e rest done log st.fn st.nt st.fr st.hp st.bd::k) ρ L .normal a' w'→(a'.defers≠a.defers∨∃u,a'=a.put o.dst u)→K a' w':=by
  intro a' w' hq nD;obtain⟨k',hk,m,hm,c_,bI,L',g1,g2,g3,g4,g5⟩:=hq;cases hk;cases m with
  | zero=>exact g5.elim
  | succ m=>
   simp only [run,he]at g5;split at g5
   case isFalse=>exact g5.elim
   rename_i Qd;rw [ai,beq_iff_eq]at Qd;obtain⟨Qd,zt⟩:=Qd;obtain⟨u,rfl⟩: ∃u,a'=a.put o.dst u:=by
    rcases nD with nD | nD
    ·rw [g4.defers,Qc,h.ha.defers,zt,h.FD]at nD;exact absurd (sP (Env.Le.agree h.hw.lens g1) (by rw [←h.FD];exact h.hw.kS)).symm nD
    ·exact nD
   split at g5
   case h_2=>exact g5.elim
   rename_i v qw;have eD:=Env.Le.agree h.hw.lens g1;have dH:=fJ.le h.hw.lens g3.lens g1;have Al:v.sc c_.bd=true:=by
    cases hd:o.dst with
    | none=>rw [hd]at qw;simp only [aeX]at qw;subst qw;rfl
    | some d=>rw [hd]at qw;exact Bx g3.kd qw
   have H6:HW Fs w0 (fB c_ st.fn st.nt st.fr) bI w':=⟨g3.lens,cF dH h.hw.kd,g3.fm,g3.mL,g3.kn,g3.own,g3.same,c6 dH h.hw.kS⟩;have UE:=dR (fB c_ st.fn st.nt st.fr) o.dst v;have uf: ∀j,jr (aV.setIfInBounds e true) j=(decide (e=j)||jr aV j):=fun j=>wD hel
   refine hK _ _ ⟨m,by omega,_,_,_,_,bI,L',W++[(e,o.dst,u)],g5,g1,g2,?_⟩;refine⟨H6.put Al,by rw [UE.2.2.2.1];exact h.FD,?_,?_,?_,?_,?_,?_,by simp [h.P_],?_,?_,?_⟩
   ·have f1:W.filter (fun y=>jr (aV.setIfInBounds e true) y.1)=W.filter (fun y=>jr aV y.1):=List.filter_congr fun y hy=>by
     have:e≠y.1:=fun ee=>YV (by rw [ee];exact List.mem_map.2 ⟨y,hy,rfl⟩)
     rw [uf];simp [this]
    rw [List.filter_append,f1,List.filter_cons_of_pos (by rw [uf];simp),List.filter_nil,iO,sK,←h.act]
   ·rw [iO,sK];have ha3:=h.ha.more h.hw.kd (by rw [←h.FD];exact h.hw.kS) eD;cases hd:o.dst with
    | none=>exact ha3
    | some d=>
     have hdl:d<nt.n:=by rw [←h.FD];exact sO vV d hd
     refine HA.put ha3 (fun x hx=>by cases hx;exact hdl) ?_ _ rfl;rw [hd]at qw;have:=g4.aT d v qw;rw [hd,xT a d u (ae_ hdl fx)]at this;exact this
   ·rw [List.map_append,List.nodup_append];exact⟨h.nd,by simp,fun x hx y hy=>by
     simp only [afj,List.map_nil,afC]at hy;subst hy;intro VQ;subst VQ;exact YV hx⟩
   ·intro j;rw [u_,Bool.or_eq_true,h.done,List.map_append,List.mem_append];simp only [decide_eq_true_eq,afj,List.map_nil,afC];exact⟨fun hj=>hj.imp id Eq.symm,fun hj=>hj.imp id Eq.symm⟩
   ·intro j;rw [afk,h.rest,List.map_append,List.mem_append];simp only [bne_iff_ne,ne_eq,afj,List.map_nil,afC,not_or,and_assoc]
   ·intro j hj;rw [List.map_append,List.mem_append];rw [uf,Bool.or_eq_true]at hj;rcases hj with hj | hj
    ·right;rw [←of_decide_eq_true hj];simp
    ·exact .inl (h.sub j hj)
   ·intro p op hop hp x hx hb;rw [uf,Bool.or_eq_true]at hp ⊢;rcases hp with hp | hp
    ·have:=of_decide_eq_true hp;subst this;rw [he]at hop;cases hop;exact .inr (n8 x hx hb)
    ·exact .inr (h.UJ p op hop hp x hx hb)
   ·intro W1 x W2 hW;rcases n9 hW with⟨rfl,rfl,rfl⟩ | ⟨J6,rfl,PG⟩
    ·exact⟨o,he,rfl,fun x hx hb=>h.sub _ (n8 x hx hb)⟩
    ·exact h.Qa W1 x J6 PG
   ·intro W1 x W2 hW Gg;rcases n9 hW with⟨rfl,rfl,rfl⟩ | ⟨J6,rfl,PG⟩
    ·rw [uf]at Gg;simp at Gg
    ·rw [uf,Bool.or_eq_false_iff]at Gg;obtain⟨o',rd,hp,qe,h1,h2,h3,h4⟩:=h.Qb W1 x J6 PG Gg.2;refine⟨o',rd,hp,qe,h1,h2,h3,fun j hj ck Ld=>?_⟩;obtain⟨P8,Ts,xW⟩:=h4 j hj ck Ld;have hx:=aeT.1 Qd _ h2;simp only [Bool.or_eq_true]at hx;rcases hx with hx | hx
     ·have XL:x.1<all.size:=(ae5.1 h1).1;have:=sM Aw (fun q=>jr aV q=true) h.UJ he n8 XL hx;rw [Gg.2]at this;cases this
     ·obtain⟨b,hb,YW⟩:=J9 hx eD hj Ts;exact⟨b,by rw [UE.1];exact hb,by rw [YW,xW]⟩
 unfold wpOpIn;simp only [he];unfold wpListIn at RZ;split
 ·rename_i lz;rw [if_pos lz]at RZ;refine Oper.Gi (fun a' w' hh=>fin a' w' hh.1 hh.2) (fun c a' w' hq=>?_) (fun hq=>?_) (Oper.Mz RZ)
  ·obtain⟨k',hk,_⟩:=hq;cases hk
  ·obtain⟨_,_,k',hk,_⟩:=hq;cases hk
 ·rename_i lz;rw [if_neg lz]at RZ;exact⟨RZ.1,fin _ _ RZ.2 (.inr ⟨undef,rfl⟩)⟩
theorem DI.descend(hT:bG P C.T=true){k:List KI}{L:Nat→LC}: ∀{m:Nat} {rest:List Nat} {done:Nat} {log:List (Nat×List Nat)} {st:St} {W:List Wr},
  VC P ar (run C m (.rC all pm rest done log::k) st) ρ L→DI P Fs w0 all ro nt a0 aV a w rest done log st ρ W→
  ∃m',m'≤m∧∃rest done log st W,VC P ar (run C m' (.rC all pm rest done log::k) st) ρ L∧DI P Fs w0 all ro nt a0 aV a w rest done log st ρ W∧
   (rest=[]∨(rest.find? fun i=>BC all i&&lA all done i)=none)
 | 0,rest,done,log,st,W,hv,_=>hv.elim
 | m+1,[],done,log,st,W,hv,h=>⟨m+1,Nat.le_refl _,[],done,log,st,W,hv,h,.inl rfl⟩
 | m+1,x::r,done,log,st,W,hv,h=>by
  cases hf:(x::r).find? fun i=>BC all i&&lA all done i with
  | none=>exact⟨m+1,Nat.le_refl _,x::r,done,log,st,W,hv,h,.inr hf⟩
  | some i=>
   have Gj:=List.mem_of_find?_eq_some hf;have gY:=List.find?_some hf;simp only [ai]at gY;simp only [run,hf]at hv;split at hv
   case h_2=>exact hv.elim
   rename_i o ho;split at hv
   case isFalse=>exact hv.elim
   rename_i vV;split at hv
   ·exact hv.elim
   ·rename_i g hg;split at hv
    case isFalse=>exact hv.elim
    rename_i YT;split at hv
    case h_2=>exact hv.elim
    rename_i res D4;split at hv
    case h_2=>exact hv.elim
    rename_i Qe;obtain⟨bY,hv⟩:=gQ h.hw.kn hv;obtain⟨m',UL,q⟩:=DI.descend hT hv (h.quiet hT Gj gY.2 ho vV hg YT D4 Qe bY);exact⟨m',by omega,q⟩
def R0(all:Array Oper)(aV:Array Bool):Nat:=(List.range all.size).countP fun i=> !jr aV i
theorem Qf(hl:aV.size=all.size){i:Nat}(hi:i<all.size)(hn:jr aV i=false):R0 all (aV.setIfInBounds i true)+1≤R0 all aV:=by
 unfold R0;have key: ∀(l:List Nat),l.Nodup→i∈l→l.countP (fun j=> !jr (aV.setIfInBounds i true) j)+1≤l.countP (fun j=> !jr aV j):=by
  intro l
  induction l with
  | nil=>intro _ h;cases h
  | cons x r ih=>
   intro gn hm;rw [List.nodup_cons]at gn;rw [List.countP_cons,List.countP_cons,wD (by omega)];by_cases hx:i=x
   ·subst hx;have:r.countP (fun j=> !jr (aV.setIfInBounds i true) j)=r.countP (fun j=> !jr aV j):=List.countP_congr fun j hj=>by
     have:i≠j:=fun e=>gn.1 (e▸hj)
     rw [wD (by omega)];simp [this]
    rw [this];simp [hn]
   ·have UL:i∈r:=(afd.1 hm).resolve_left hx;have:=ih gn.2 UL;simp only [hx,decide_false,Bool.false_or];omega
 exact key _ List.nodup_range (afg.2 hi)
theorem MB(h:R0 all aV=0): ∀i,i<all.size→jr aV i=true:=by
 intro i hi;unfold R0 at h;rw [List.countP_eq_zero]at h;have:=h i (afg.2 hi);simpa using this
theorem DI.J_(h:DI P Fs w0 all ro nt a0 aV a w rest done log st ρ W)(Aw:xU all pm=true)(hr:Region.ready .any all aV=[]): ∀i,i<all.size→jr aV i=true:=by
 intro i
 induction i using Nat.strongRecOn with
 | _ i ih=>
  intro hi;cases hl:jr aV i with
  | true=>rfl
  | false=>
   have hoi:all[i]? =some all[i]:=Array.getElem?_eq_getElem hi;have:i∈Region.ready .any all aV:=by
    rw [mem_ready];refine⟨?_,_,hoi,fun e he hb=>?_⟩
    ·have By:i<aV.size:=by rw [h.P_];exact hi
     unfold jr at hl;rw [afi,Array.getElem?_eq_getElem By]at hl ⊢;exact hl
    ·have:=(t_ Aw hoi).1 e he hb;exact ih e.on this (by omega)
   rw [hr]at this;cases this
theorem H7{aV:Array Bool}{a:Act}{w:World}{m:Nat}{n:Nat}{rest:List Nat}{done:Nat}{log:List (Nat×List Nat)}{st:St}{ρ:Env}{W:List Wr}{k:List KI}{L:Nat→LC}{H3:Env}{Lb:Nat→LC}
  (tK: ∀i,i<all.size→jr aV i=true) (hm:m≤n) (hv:VC P ar (run C m (.rC all pm rest done log::k) st) ρ L) (hle:Env.Le H3 ρ) (hL: ∀j,j<nl k→L j=Lb j)
  (h:DI P Fs w0 all ro nt a0 aV a w rest done log st ρ W):QK P C ar Fs w0 n k H3 Lb .normal a w:=by
 have UM:rest=[]:=by
  cases hr:rest with
  | nil=>rfl
  | cons x r=>
   have:=(h.rest x).1 (by rw [hr];exact aeZ);exact absurd (h.sub x (tK x this.1)) this.2
 subst UM;cases m with
 | zero=>exact hv.elim
 | succ m=>
  simp only [run]at hv;have hW:W.filter (fun x=>jr aV x.1)=W:=by
   rw [List.filter_eq_self];intro x hx;obtain⟨A,B,hAB⟩:=List.append_of_mem hx;obtain⟨o,ho,_⟩:=h.Qa A x B hAB;exact tK x.1 (ae5.1 ho).1
  have VR:=h.act;rw [hW]at VR;refine⟨k,rfl,m,by omega,st,ρ,L,hle,hL,h.hw,?_,hv⟩;rw [VR,h.FD];exact h.ha
theorem Ax{ρ:Env}{L:Nat→LC}: ∀{l:List F},VC P ar (MC l) ρ L→∀x∈l,VC P ar x ρ L
 | [],h,_,_=>h.elim
 | [x],h,y,hy=>by
  rw [afC]at hy;exact hy▸h
 | x::y::r,h,z,hz=>by
  rcases afd.1 hz with rfl | hz
  ·exact h.1
  ·exact Ax h.2 z hz
theorem MD(hT:bG P C.T=true){n:Nat}(Lh: ∀m,m<n→rD P C ar Fs w0 m)(sN:j4 all pm=true)(Aw:xU all pm=true){k:List KI}{H3:Env}{Lb:Nat→LC}(fK:BA H3 k ro):
  ∀(fuel:Nat) (aV:Array Bool) (a:Act) (w:World),R0 all aV≤fuel→
   (∃m,m≤n∧∃rest done log st ρ L W,VC P ar (run C m (.rC all pm rest done log::k) st) ρ L∧Env.Le H3 ρ∧(∀j,j<nl k→L j=Lb j)∧DI P Fs w0 all ro nt a0 aV a w rest done log st ρ W)→
   wpAnyIn (FW ro) 0 P .any all (QK P C ar Fs w0 n k H3 Lb) fuel aV a w:=by
 intro fuel
 induction fuel with
 | zero=>
  intro aV a w hf ⟨m,hm,rest,done,log,st,ρ,L,W,hv,hle,hL,h⟩;have tK:=MB (Nat.le_zero.1 hf);refine⟨?_,?_⟩
  ·cases hr:Region.ready .any all aV with
   | nil=>rfl
   | cons i r=>
    have:i∈Region.ready .any all aV:=by rw [hr];exact aeZ
    rw [mem_ready]at this;obtain⟨h0,o,ho,_⟩:=this;have hi:i<all.size:=(ae5.1 ho).1;have hl:=tK i hi;unfold jr at hl;have By:i<aV.size:=by rw [h.P_];exact hi
    rw [afi,Array.getElem?_eq_getElem By]at hl h0;simp at hl h0;rw [hl]at h0;cases h0
  ·exact H7 tK hm hv hle hL h
 | succ fuel ih=>
  intro aV a w hf ⟨m,hm,rest,done,log,st,ρ,L,W,hv,hle,hL,h⟩;refine⟨fun hr=>H7 (h.J_ Aw hr) hm hv hle hL h,fun i hi=>?_⟩;rw [mem_ready]at hi;obtain⟨h0,o,ho,zp⟩:=hi;have By:i<all.size:=(ae5.1 ho).1;have rS:jr aV i=false:=by
   have:i<aV.size:=by rw [h.P_];exact By
   unfold jr;rw [afi,Array.getElem?_eq_getElem this]at h0 ⊢;exact h0
  have Qg:R0 all (aV.setIfInBounds i true)≤fuel:=by
   have:=Qf h.P_ By rS;omega
  obtain⟨m',UL,ME,MF,YX,c_,W',qw,h',Qh⟩:=DI.descend hT hv h;by_cases RY:i∈W'.map (·.1)
  ·exact h'.pending sN Aw ho rS zp RY _ _ fun a' hD=>ih _ _ _ Qg ⟨m',by omega,ME,MF,YX,c_,ρ,L,W',qw,hle,hL,hD⟩
  ·have Tr:i∈ME:=(h'.rest i).2 ⟨By,RY⟩;have cV:lA all MF i=true:=J7 ho fun e he hb=>(h'.done _).2 (h'.sub _ (zp e he hb))
   rcases Qh with rfl | Qh
   ·cases Tr
   ·cases m' with
    | zero=>exact qw.elim
    | succ m'=>
     cases UM:ME with
     | nil=>rw [UM]at Tr;cases Tr
     | cons x r=>
      rw [UM]at qw Qh;simp only [run,Qh]at qw;have hiL:i∈(x::r).filter (lA all MF):=afk.2 ⟨UM▸Tr,cV⟩;have qw:=Ax qw _ (List.mem_map.2 ⟨i,hiL,rfl⟩);simp only [ho]at qw;split at qw
      case isFalse=>exact qw.elim
      rename_i vV;rw [←UM]at qw;refine DI.effect (Lh m' (by omega)) (fK.le hle) h' sN Aw ho Tr rS zp vV qw _ _ fun a' w' hq=>ih _ _ _ Qg ?_
      obtain⟨m2,Tg,VS,VT,log2,D5,H8,L2,W2,q1,q2,q3,q4⟩:=hq;exact⟨m2,by omega,VS,VT,log2,D5,H8,L2,W2,q1,hle.trans q2,fun j hj=>(q3 j hj).trans (hL j hj),q4⟩
theorem HW.drew(h:HW Fs w0 st ρ w)(d:Nat):HW Fs w0 st ρ {w with drawn:=d}:=by
 refine⟨h.lens,h.kd,h.fm,h.mL,h.kn,?_,h.same.trans ⟨rfl,rfl,rfl,Nat.le_refl _⟩,h.kS⟩;obtain⟨S,hS⟩:=h.own;exact⟨S,hS.keep (Nat.le_refl _) fun _ _=>rfl⟩
theorem D6(hT:bG P C.T=true)(hm:P.follows .mixedOrders=true){n:Nat}(Lh: ∀m,m<n→rD P C ar Fs w0 m):Gk P C ar Fs w0 n:=by
 intro ro id all pm k st ρ L a w hv sN Aw hw ha fK;refine wpIn_region_any hm (MD (ro:=ro) (nt:=st.nt) (a0:=a) hT Lh sN Aw fK _ _ _ _ ?_ ⟨n,Nat.le_refl _,_,_,_,_,ρ,L,[],hv,Env.Le.refl _,fun _ _=>rfl,?_⟩)
 ·unfold R0;exact Nat.le_trans List.countP_le_length (by simp)
 ·have Py: ∀i,jr (Array.replicate all.size false) i=false:=by
   intro i;unfold jr;rw [afi];by_cases hi:i<all.size
   ·simp [hi]
   ·rw [Array.getElem?_eq_none (by simpa using hi)];rfl
  refine⟨hw.drew _,rfl,rfl,ha,List.nodup_nil,fun i=>by simp,fun i=>by simp,fun i hi=>?_,by simp,fun p o _ hp=>?_,fun W1 x W2 hW=>?_,fun W1 x W2 hW=>?_⟩
  ·rw [Py]at hi;cases hi
  ·rw [Py]at hp;cases hp
  ·simp at hW
  ·simp at hW
end
section
variable {P:Program} {C:Ctx} {ar:Value→List HP→Prop} {Fs:List HP} {w0:World}
theorem Ay(hT:bG P C.T=true){n N:Nat}(hnN:n<N)(vd: ∀m,m<N→pC P C ar Fs w0 m){ro:Option Nat}{c:Code}{fd:Func}{f:Nat}(hf:P.funcs[f]? =some fd)(hb:fd.body=some c){k:List KI}{st:St}{ρ H3:Env}{L Lb:Nat→LC}{w:World}
  {az:List SV} {l r fn:Nat} {nt:NT} {fr:List (Nat×SV)} {ps:Array Tmp} {x y:Code} {a':Act}
  (hv:VC P ar (run C n (.code c:: .rf l r fn nt fr ps x y fd::k) (fB st f ⟨fd.ntmps,[]⟩ (ep 0 az))) ρ L) (iJ:SV.oK st.bd az=true) (hw:HW Fs w0 st ρ w)
  (fK:BA ρ (.rf l r fn nt fr ps x y fd::k) none) (R1:BA ρ k ro) (RN:kH st.bd fr=true) (Li:nt.ds.all (MK.sc st.bd)=true) (ha:HA fr nt ρ a') (hle:Env.Le H3 ρ) (hL: ∀j,j<nl k→L j=Lb j) (hl:l<st.bd.b):
  CallsIn (FW none) 0 P f (SV.vals ρ az).toArray w (rangePost (FW ro) 0 P (ρ.bv.getD l 0) (QK P C ar Fs w0 N k H3 Lb) a'):=by
 refine callsIn_of_wp_marks hf hb trivial ?_ rfl;have VU:HW Fs w0 (fB st f ⟨fd.ntmps,[]⟩ (ep 0 az)) ρ w:=⟨hw.lens,wE az 0 iJ,hw.fm,hw.mL,hw.kn,hw.own,hw.same,rfl⟩;refine wpIn_mono (vd n hnN none c _ _ ρ L _ w hv VU (xY az fd.ntmps) fK) ?_;have key: ∀a1 w1,At P C ar Fs w0 n (.rf l r fn nt fr ps x y fd::k) ρ L a1 w1→LeavesInM (FW none) 0 P fd a1.tmps (rangePost (FW ro) 0 P (ρ.bv.getD l 0) (QK P C ar Fs w0 N k H3 Lb) a') a1.defers .returning w1:=by
  intro a1 w1 ⟨m,hm,c_,bI,L',h1,h2,h3,h4,h5⟩;cases m with
  | zero=>exact h5.elim
  | succ m=>
   simp only [run]at h5;split at h5
   case h_2=>exact h5.elim
   rename_i D5 H9;have MG:D5.fr=c_.fr∧D5.nt=c_.nt∧D5.bd=c_.bd:=by
    unfold lW at H9;rw [aeY]at H9;obtain⟨kT,_,rfl⟩:=H9;exact⟨rfl,rfl,rfl⟩
   split at h5
   case h_2=>exact h5.elim
   rename_i v i r' s j hv Gl;split at h5
   ·exact h5.elim
   ·rename_i VV;refine mD H9 h3 h4 fun w2 D7=>?_
    refine⟨_,n_ hT D7 (nt:=c_.nt) (by rw [MG.1];exact h4) hv,?_⟩;have kp:=kU D7 Gl;have VW:bI.bv.getD l 0=ρ.bv.getD l 0:=((Env.Le.agree hw.lens h1).b l hl).symm;rw [VW]at kp;refine⟨j.code,_,run_endLoop kp (by cases s<;>first | (simp [RS.st];done) | exact absurd rfl VV),?_⟩;have H6:=BD D7 Gl .exhausted j;rw [VW]at H6;have dH:=fJ.le hw.lens D7.lens h1;have MH:HW Fs w0 (fB {D5 with hp:=D5.hp.set i (.kr l r' .exhausted j)} fn nt fr) bI _:=⟨H6.lens,cF dH RN,H6.fm,H6.mL,H6.kn,H6.own,H6.same,c6 dH Li⟩;have YY:HA fr nt bI a':=ha.more RN Li (Env.Le.agree hw.lens h1);have Tc: ∀q,q<nl k→L' q=Lb q:=fun q hq=>(h2 q hq).trans (hL q hq)
    cases j with
    | none=>
     exact⟨k,rfl,m,by omega,_,bI,L',hle.trans h1,Tc,MH,YY,h5⟩
    | ret=>
     exact wpIn_mono (vd m (by omega) ro .ret k _ bI L' a' _ h5 MH YY (R1.le h1)) fun e a w hq=>hq.mono (by omega) (hle.trans h1) Tc
    | exit id=>
     exact wpIn_mono (vd m (by omega) ro (.exit id) k _ bI L' a' _ h5 MH YY (R1.le h1)) fun e a w hq=>hq.mono (by omega) (hle.trans h1) Tc
 intro e a1 w1 hq;obtain⟨k',hk,dC⟩:=hq;cases e with
 | normal=>cases hk;exact key a1 w1 dC
 | ret=>cases hk;exact key a1 w1 dC
 | exit id=>cases hk
 | goto l=>cases hk
 | panic l=>cases hk
 | outgrown=>cases hk
theorem Ka{ρ:Env}{c:cP}(h:fJ ρ c)(l:Nat)(q:Loop):fJ (ρ.ext ⟨[l],[],[],[],[],[],[q]⟩) {c with b:=c.b+1,r:=c.r+1}:=
 ⟨by simp [Env.ext,h.b],by simp [Env.ext,h.v],by simp [Env.ext,h.i],by simp [Env.ext,h.a],by simp [Env.ext,h.bo],by simp [Env.ext,h.p],by simp [Env.ext,h.r]⟩
theorem Kb{ρ:Env}{c:cP}(h:fJ ρ c)(d l:Nat)(q:Loop):fJ (ρ.ext ⟨[d,l],[],[],[],[],[],[q]⟩) {c with b:=c.b+2,r:=c.r+1}:=
 ⟨by simp [Env.ext,h.b],by simp [Env.ext,h.v],by simp [Env.ext,h.i],by simp [Env.ext,h.a],by simp [Env.ext,h.bo],by simp [Env.ext,h.p],by simp [Env.ext,h.r]⟩
theorem rE(w:World)(o:Obj):fV w (w.alloc o):=⟨rfl,rfl,rfl,by simp⟩
theorem D8(hT:bG P C.T=true)(Az:aX P C.FT){n:Nat}(vd: ∀m,m<n→pC P C ar Fs w0 m):MI P C ar Fs w0 n:=by
 intro ro g ps x y k st ρ L a w hv hw ha fK;cases n with
 | zero=>exact hv.elim
 | succ n=>
  have hn:n<n+1:=Nat.lt_succ_self n;simp only [run]at hv;split at hv
  case h_2=>exact hv.elim
  rename_i f caps hg;have hev:=eP ha.eval hg;split at hv
  ·exact hv.elim
  rename_i fd xZ;have Gj:=List.mem_of_find?_eq_some xZ;have JK:=List.find?_some xZ;simp only [beq_iff_eq]at JK;obtain⟨hf,D9⟩:=Az _ Gj;simp only at hf D9;rw [JK]at hf;split at hv
  ·exact hv.elim
  rename_i c hb;split at hv
  case isFalse=>exact hv.elim
  rename_i H_;have Tt: ¬fd.name= "runtime.NumGoroutine" :=by simpa using D9
  have D4: ∀(l:Nat) (w1:World),(resolve a.eval (rangeCall g l) 0).run P w1= .ok {target:= .fn (.func f) (SV.vals ρ caps).toArray,args:= #[.func (.yield l) #[] #[]]} w1:=by
   intro l w1;simp only [resolve,hev,SV.val,Deferred.ofValue];simp [Act.eval]
  have hinv: ∀(l:Nat) (w1:World),(invoke (.fn (.func f) (SV.vals ρ caps).toArray) #[.func (.yield l) #[] #[]]).run P w1= .ok (.enter f (#[.func (.yield l) #[] #[]]++(SV.vals ρ caps).toArray)) w1:=by
   intro l w1;simp [invoke,callFunc,hf,Tt,hb]
  have JZ:=fK.ro;split at hv
  ·
   rename_i YZ;rw [YZ]at JZ;simp only at JZ;subst JZ;refine wpIn_rangeFunc fun fn _=>?_
   have e1:=run_enterLoop_outer (P:=P) (w:=w) fn a.tmps ps x y;refine⟨_,_,_,_,_,f,_,_,e1,D4 _ _,fun _ _=>trivial,hinv _ _,fun h=>(by cases h),?_⟩;simp only [VC]at hv;have uU:=hv w.heap.size (w.heap.size+1) {state:= .ready,pending:=none,fn,tmps:=a.tmps,params:=ps,assign:=x,body:=y,defers:=w.heap.size};generalize hq:({state:= .ready,pending:=none,fn,tmps:=a.tmps,params:=ps,assign:=x,body:=y,defers:=w.heap.size}:Loop)=q at uU e1 ⊢;have hle:=Env.fX ρ ⟨[w.heap.size,w.heap.size+1],[],[],[],[],[],[q]⟩;have eD:=Env.Le.agree hw.lens hle;have hl:=Kb hw.lens w.heap.size (w.heap.size+1) q;have dH:=fJ.le hw.lens hl hle;have b1:(ρ.ext ⟨[w.heap.size,w.heap.size+1],[],[],[],[],[],[q]⟩).bv.getD st.bd.b 0=w.heap.size:=by simp [Env.ext,←hw.lens.b]
   have b2:(ρ.ext ⟨[w.heap.size,w.heap.size+1],[],[],[],[],[],[q]⟩).bv.getD (st.bd.b+1) 0=w.heap.size+1:=by simp [Env.ext,←hw.lens.b]
   have b3:(ρ.ext ⟨[w.heap.size,w.heap.size+1],[],[],[],[],[],[q]⟩).lr.getD st.bd.r gW=q:=by simp [Env.ext,←hw.lens.r]
   have BF:({q with state:=RS.ready.st,pending:=Jump.none.code}:Loop)=q:=by subst hq;rfl
   have Tu:q.params=ps:=by subst hq;rfl
   have Y0:q.assign=x:=by subst hq;rfl
   have XM:q.body=y:=by subst hq;rfl
   have Y1:q.tmps=a.tmps:=by subst hq;rfl
   clear hq;generalize Y2:ρ.ext ⟨[w.heap.size,w.heap.size+1],[],[],[],[],[],[q]⟩=qe at uU hle eD hl b1 b2 b3;have VX:bK ((st.hp.map (Ck.den qe)++[xe w.heap.size])++Fs) (w.alloc (.deferred (some []))):=by
    refine bK.add (by rw [←jz eD hw.fm];exact hw.own) _ (fun k=>k=w.heap.size) (by simp) (fun k hk=>heap_alloc_old w _ hk) ⟨fun _=>Iff.rfl,heap_alloc_new w _⟩ (fun k hk=>by simp;omega)
   have MJ:bK (((st.hp.map (Ck.den qe)++[xe w.heap.size])++[L8 (w.heap.size+1) q])++Fs) ((w.alloc (.deferred (some []))).alloc (.loop q)):=by
    have fx:(w.alloc (.deferred (some []))).heap.size=w.heap.size+1:=by simp
    refine bK.add VX _ (fun k=>k=w.heap.size+1) (by simp) (fun k hk=>heap_alloc_old _ _ hk) ⟨fun _=>Iff.rfl,?_⟩ (fun k hk=>by simp;omega);have:=heap_alloc_new (w.alloc (.deferred (some []))) (.loop q)
    rwa [fx]at this
   have wC:HW Fs w0 {st with hp:=st.hp++[.J1 st.bd.b]++[.kr (st.bd.b+1) st.bd.r .ready .none],bd:={st.bd with b:=st.bd.b+2,r:=st.bd.r+1}} qe ((w.alloc (.deferred (some []))).alloc (.loop q)):=by
    refine⟨hl,cF dH hw.kd,?_,eT dH hw.mL,fun b hb=>(BE.gf eD (aeT.1 hw.mL b hb)).1 (hw.kn b hb),?_,(hw.same.trans (rE _ _)).trans (rE _ _),c6 dH hw.kS⟩
    ·simp only [List.all_append,ai,List.all_cons,List.all_nil,Ck.sc,afb];exact⟨⟨ik dH hw.fm,by omega,trivial⟩,⟨by omega,by omega⟩,trivial⟩
    ·simp only [List.map_append,afj,List.map_nil,Ck.den,b1,b2,b3,BF];exact MJ
   have ML:kH {st.bd with b:=st.bd.b+2,r:=st.bd.r+1} st.fr=true:=cF dH hw.kd;have Y3:(MK.one st.bd.b::st.nt.ds).all (MK.sc {st.bd with b:=st.bd.b+2,r:=st.bd.r+1})=true:=by
    rw [List.all_cons,ai,MK.sc,afb];exact⟨by show st.bd.b<st.bd.b+2;omega,c6 dH hw.kS⟩
   have Gm:=ha.more hw.kd hw.kS eD;have D_:BA qe (.rf (st.bd.b+1) st.bd.r st.fn ⟨st.nt.n,.one st.bd.b::st.nt.ds⟩ st.fr ps x y fd::k) none:=by
    refine⟨fun l r fn nt fr XN x' y' VY hm=>?_,rfl⟩;rcases afd.1 hm with hm | hm
    ·cases hm;refine⟨qe,_,hl,Env.Le.refl _,ML,by simp,by rw [b3,Tu],by rw [b3,Y0],by rw [b3,XM],?_⟩;rw [b3,Y1];exact⟨rfl,Gm.size,Gm.aT⟩
    ·exact(fK.le hle).rf l r fn nt fr XN x' y' VY hm
   have pD:=Ay (Lb:=L) hT hn vd hf hb (a':={a with defers:=[{target:= .collected w.heap.size,args:= #[]}]++a.defers}) uU
    (by simp only [SV.oK,SV.sc,ai,afb];exact⟨by omega,SV.eS dH H_⟩) wC D_ (fK.le hle) ML Y3
    ⟨by rw [ha.defers,sP eD hw.kS];simp only [marks,List.flatMap_cons,MK.blocks,afj,b1,List.singleton_append],Gm.size,Gm.aT⟩ hle (fun _ _=>rfl) (by simp)
   rw [b2]at pD;have jq:(SV.vals qe (.Jz (st.bd.b+1)::caps)).toArray= #[.func (.yield (w.heap.size+1)) #[] #[]]++(SV.vals ρ caps).toArray:=by
    simp only [SV.vals,SV.val,b2,(SV.fI eD H_).1];simp
   rw [jq]at pD;exact pD
  ·
   rename_i l0 YZ;rw [YZ]at JZ;simp only at JZ;obtain⟨ve,c0,k1,k2,k3,k4⟩:=JZ;rw [(Env.Le.agree k1 k2).b l0 k3]at k4;split at hv
   case h_2=>exact hv.elim
   rename_i rc Gl;obtain⟨i0,r0,s0,j0⟩:=rc;have kp:=kU hw Gl;refine wpIn_rangeFunc fun fn _=>?_
   have e1:=run_enterLoop_inner (P:=P) (w:=w) kp fn a.tmps ps x y;rw [show(FW ro).round=ro from rfl,k4];refine⟨_,_,_,_,_,f,_,_,e1,D4 _ _,fun _ _=>trivial,hinv _ _,fun h=>(by cases h),?_⟩;simp only [VC]at hv;have uU:=hv w.heap.size {state:= .ready,pending:=none,fn,tmps:=a.tmps,params:=ps,assign:=x,body:=y,defers:=({ρ.lr.getD r0 gW with state:=s0.st,pending:=j0.code}:Loop).defers};generalize hq:({state:= .ready,pending:=none,fn,tmps:=a.tmps,params:=ps,assign:=x,body:=y,defers:=({ρ.lr.getD r0 gW with state:=s0.st,pending:=j0.code}:Loop).defers}:Loop)=q at uU e1 ⊢;have hle:=Env.fX ρ ⟨[w.heap.size],[],[],[],[],[],[q]⟩;have eD:=Env.Le.agree hw.lens hle;have hl:=Ka hw.lens w.heap.size q;have dH:=fJ.le hw.lens hl hle;have b2:(ρ.ext ⟨[w.heap.size],[],[],[],[],[],[q]⟩).bv.getD st.bd.b 0=w.heap.size:=by simp [Env.ext,←hw.lens.b]
   have b3:(ρ.ext ⟨[w.heap.size],[],[],[],[],[],[q]⟩).lr.getD st.bd.r gW=q:=by simp [Env.ext,←hw.lens.r]
   have BF:({q with state:=RS.ready.st,pending:=Jump.none.code}:Loop)=q:=by subst hq;rfl
   have Tu:q.params=ps:=by subst hq;rfl
   have Y0:q.assign=x:=by subst hq;rfl
   have XM:q.body=y:=by subst hq;rfl
   have Y1:q.tmps=a.tmps:=by subst hq;rfl
   clear hq;generalize Y2:ρ.ext ⟨[w.heap.size],[],[],[],[],[],[q]⟩=qe at uU hle eD hl b2 b3;have MJ:bK ((st.hp.map (Ck.den qe)++[L8 w.heap.size q])++Fs) (w.alloc (.loop q)):=by
    refine bK.add (by rw [←jz eD hw.fm];exact hw.own) _ (fun k=>k=w.heap.size) (by simp) (fun k hk=>heap_alloc_old w _ hk) ⟨fun _=>Iff.rfl,heap_alloc_new w _⟩ (fun k hk=>by simp;omega)
   have wC:HW Fs w0 {st with hp:=st.hp++[.kr st.bd.b st.bd.r .ready .none],bd:={st.bd with b:=st.bd.b+1,r:=st.bd.r+1}} qe (w.alloc (.loop q)):=by
    refine⟨hl,cF dH hw.kd,?_,eT dH hw.mL,fun b hb=>(BE.gf eD (aeT.1 hw.mL b hb)).1 (hw.kn b hb),?_,hw.same.trans (rE _ _),c6 dH hw.kS⟩
    ·simp only [List.all_append,ai,List.all_cons,List.all_nil,Ck.sc,afb];exact⟨ik dH hw.fm,⟨by omega,by omega⟩,trivial⟩
    ·simp only [List.map_append,afj,List.map_nil,Ck.den,b2,b3,BF];exact MJ
   have ML:kH {st.bd with b:=st.bd.b+1,r:=st.bd.r+1} st.fr=true:=cF dH hw.kd;have Gm:=ha.more hw.kd hw.kS eD;have D_:BA qe (.rf st.bd.b st.bd.r st.fn st.nt st.fr ps x y fd::k) none:=by
    refine⟨fun l r fn nt fr XN x' y' VY hm=>?_,rfl⟩;rcases afd.1 hm with hm | hm
    ·cases hm;refine⟨qe,_,hl,Env.Le.refl _,ML,by simp,by rw [b3,Tu],by rw [b3,Y0],by rw [b3,XM],?_⟩;rw [b3,Y1];exact⟨rfl,Gm.size,Gm.aT⟩
    ·exact(fK.le hle).rf l r fn nt fr XN x' y' VY hm
   have pD:=Ay (Lb:=L) (ro:=ro) hT hn vd hf hb (a':={a with defers:=[]++a.defers}) uU
    (by simp only [SV.oK,SV.sc,ai,afb];exact⟨by omega,SV.eS dH H_⟩) wC D_ (fK.le hle) ML (c6 dH hw.kS)
    ⟨Gm.defers,Gm.size,Gm.aT⟩ hle (fun _ _=>rfl) (by simp)
   rw [b2]at pD;have jq:(SV.vals qe (.Jz st.bd.b::caps)).toArray= #[.func (.yield w.heap.size) #[] #[]]++(SV.vals ρ caps).toArray:=by
    simp only [SV.vals,SV.val,b2,(SV.fI eD H_).1];simp
   rw [jq]at pD;rw [k4]at pD;exact pD
end
section
variable {P:Program} {C:Ctx} {ar:Value→List HP→Prop} {Fs:List HP} {w0:World}
theorem Kc(hT:bG P C.T=true)(Az:aX P C.FT)(Ea:fZ P C)(hm:P.follows .mixedOrders=true)(n:Nat):pC P C ar Fs w0 n∧rD P C ar Fs w0 n∧Gk P C ar Fs w0 n:=by
 induction n using Nat.strongRecOn with
 | _ n ih=>exact⟨Eb hT (fun m hm=>(ih m hm).1) (fun m hm=>(ih m hm).2.1) (fun m hm=>(ih m hm).2.2) (D8 hT Az fun m hm=>(ih m hm).1),Ec hT Az Ea (fun m hm=>(ih m hm).1) (fun m hm=>(ih m hm).2.1),D6 hT hm (fun m hm=>(ih m hm).2.1)⟩
theorem aw.MM(hT:bG P C.T=true)(Az:aX P C.FT)(hm:P.follows .mixedOrders=true){f:Nat}{fd:Func}(hf:P.funcs[f]? =some fd){args:List SV}{hp:List Ck}{bd:cP}{ρ:Env}(hl:fJ ρ bd)
  (h:VC P ar (iq C f args hp bd fd) ρ fun _=>LC.none) (Ea:fZ P C:=by exact fZ.none rfl):aw P f (SV.vals ρ args) (hp.map (Ck.den ρ)) ar:=by
 intro w Fs cM;unfold iq at h;split at h
 case h_2=>exact h.elim
 rename_i c hb;split at h
 case isFalse=>exact h.elim
 rename_i iJ;simp only [ai]at iJ;have hw:HW Fs w {fn:=f,fr:=ep 0 args,hp:=hp,bd:=bd,nt:=⟨fd.ntmps,[]⟩} ρ w:=
  ⟨hl,wE args 0 iJ.1,iJ.2,rfl,fun b hb=>(by cases hb),cM,fV.refl w,rfl⟩
 have RZ:=(Kc (ar:=ar) (Fs:=Fs) (w0:=w) hT Az Ea hm 100000).1 none c _ _ ρ _ _ w h hw (xY args fd.ntmps) ⟨fun l r fn nt fr ps x y fd hm=>(by simp at hm),rfl⟩;have key: ∀a' w',At P C ar Fs w 100000 [.top fd] ρ (fun _=>LC.none) a' w'→LeavesInM (FW none) 0 P fd a'.tmps (fun e w'=> ∃v hs,e= .returned v∧ar v hs∧bK (hs++Fs) w'∧fV w w') a'.defers .returning w':=by
  intro a' w' ⟨m,hm,c_,bI,L',h1,h2,h3,h4,h5⟩;cases m with
  | zero=>exact h5.elim
  | succ m=>
   simp only [run]at h5;split at h5
   case h_2=>exact h5.elim
   rename_i D5 H9;have MG:D5.fr=c_.fr:=by
    unfold lW at H9;rw [aeY]at H9;obtain⟨kT,_,rfl⟩:=H9;rfl
   split at h5
   ·rename_i v hv;refine mD H9 h3 h4 fun w2 D7=>?_
    exact⟨_,n_ hT D7 (nt:=c_.nt) (by rw [MG];exact h4) hv,_,_,rfl,h5,D7.own,D7.same⟩
   ·exact h5.elim
 have fin: ∀e a' w',QK P C ar Fs w 100000 [.top fd] ρ (fun _=>LC.none) e a' w'→bodyPostM (FW none) 0 P fd (fun e w'=> ∃v hs,e= .returned v∧ar v hs∧bK (hs++Fs) w'∧fV w w') e a' w':=by
  intro e a' w' hq;obtain⟨k',hk,dC⟩:=hq;cases e with
  | normal=>cases hk;exact key a' w' dC
  | ret=>cases hk;exact key a' w' dC
  | exit id=>cases hk
  | goto l=>cases hk
  | panic l=>cases hk
  | outgrown=>cases hk
 have main:CallsIn (FW none) 0 P f (SV.vals ρ args).toArray w (fun e w'=> ∃v hs,e= .returned v∧ar v hs∧bK (hs++Fs) w'∧fV w w'):=by
  refine callsIn_of_wp_marks hf hb trivial (wpIn_mono RZ ?_) rfl;exact fin
 have main':CallsIn Fence.wide 0 P f (SV.vals ρ args).toArray w (fun e w'=> ∃v hs,e= .returned v∧ar v hs∧bK (hs++Fs) w'∧fV w w'):=main;exact callsIn_wide.1 main'
end
theorem aX.nil{P:Program}:aX P []:=fun x hx=>(by cases hx)
theorem aX.cons{P:Program}{FT:List (Nat×Func)}{f:Nat}{fd:Func}(h:P.funcs[f]? =some fd)(hn:(fd.name== "runtime.NumGoroutine")=false)(hr:aX P FT):aX P ((f,fd)::FT):=by
 intro x hx;rcases afd.1 hx with rfl | hx
 ·exact⟨h,hn⟩
 ·exact hr x hx
theorem aw.law{P:Program}{f:Nat}{args:List Value}{pre:List HP}(h:aw P f args pre fun v _=>v= .bool true)(w:World)(cM:bK (pre++[xg w.heap.size w]) w):
  Calls P f args.toArray w fun e w'=>e= .returned (.bool true)∧RowKit.Below w.heap.size w w':=by
 refine(h w _ cM).mono ?_;rintro e w' ⟨v,hs,rfl,rfl,⟨S,hS⟩,q9⟩;refine⟨rfl,?_⟩;have:=(hS.at_ hs.length (xg w.heap.size w) (by simp)).1;exact⟨q9.os,q9.tape,q9.output,q9.size,fun k hk=>this.2 k hk⟩
end Go.RX
