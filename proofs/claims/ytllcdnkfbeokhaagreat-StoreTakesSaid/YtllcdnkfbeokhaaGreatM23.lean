/- Executor. -/
import Derived.Test.YtllcdnkfbeokhaaGreatM22
open Array renaming getD_eq_getD_getElem? → aqK, getElem?_eq_some_iff → aqw
open Bool renaming and_eq_true → ai
open Go.Region renaming binds → aq4
open List renaming all_eq_true → aqn, map_cons → aqP, mem_append → aqC, mem_cons_self → aqr, mem_filter → aqL, mem_map → aqV, mem_range → aqE, mem_singleton → aqx
open Nat renaming blt_eq → aqB, lt_of_lt_of_le → aqz
open Option renaming map_eq_some_iff → aqq
open Option.some renaming injEq → aqp
namespace Go.RX
section
variable {P:Program} {C:Ctx} {al:Value→List HP→Prop} {Fs:List HP} {w0:World} {all:Array Oper} {pm:List Nat}
variable {ro:Option Nat} {nt:NT} {a0:Act} {aM:Array Bool} {a:Act} {w:World} {rest:List Nat} {done:Nat} {log:List (Nat×List Nat)} {st:St} {ρ:Env} {W:List Wr}
theorem Oper.MP{F:Fence}{n:Nat}{o:Oper}{K:Act→World→Prop}{Q:Exit→Act→World→Prop}(hh:o.wpIn F n P a w K Q):
  o.wpIn F n P a w (fun a' w'=>K a' w'∧(a'.defers≠a.defers∨∃u,a'=a.put o.dst u)) Q:=by
 unfold Oper.wpIn at*;refine⟨hh.1,?_⟩;have hh:=hh.2;generalize (o.semAt F.round a.eval).run P w=r at*;cases r with
 | ok x w'=>
  cases x<;>simp only [Oper.uponIn]at hh ⊢ <;>
   first
    | exact⟨hh,.inr ⟨_,rfl⟩⟩
    | exact⟨hh,.inl (by rw [put_defers];simp)⟩
    | exact⟨hh.1,CallsIn.mono hh.2 (fun e Zj he=>by cases e<;>first | exact⟨he,.inr ⟨_,rfl⟩⟩ | exact he)⟩
    | exact⟨hh.1,RowsIn.mono hh.2 (fun _ _ he=>⟨he,.inr ⟨_,rfl⟩⟩)⟩
    | exact⟨hh.1,RoundIn.mono hh.2 (fun e Zj he=>by cases e<;>first | exact⟨he,.inr ⟨_,rfl⟩⟩ | exact he)⟩
    | exact hh
 | halt x w'=>cases x<;>simp only [Oper.uponIn]at hh ⊢ <;>exact hh
theorem Oper.Gx{F:Fence}{n:Nat}{o:Oper}{K K':Act→World→Prop}{Q Q':Exit→Act→World→Prop}(h: ∀a w,K a w→K' a w)(hq: ∀c a w,¬Q (.panic c) a w)(ho: ¬LetsOut Q)
  (hh:o.wpIn F n P a w K Q):o.wpIn F n P a w K' Q':=by
 unfold Oper.wpIn at*;refine⟨hh.1,?_⟩;have hh:=hh.2;generalize (o.semAt F.round a.eval).run P w=r at*;cases r with
 | ok x w'=>
  cases x<;>simp only [Oper.uponIn]at hh ⊢ <;>
   first
    | exact h _ _ hh
    | exact⟨hh.1,CallsIn.mono hh.2 (fun e Zj he=>by cases e<;>first | exact h _ _ he | exact absurd he (hq _ _ _) | exact absurd he ho)⟩
    | exact⟨hh.1,RowsIn.mono hh.2 (fun _ _ he=>h _ _ he)⟩
    | exact⟨hh.1,RoundIn.mono hh.2 (fun e Zj he=>by cases e<;>first | exact h _ _ he | exact absurd he (hq _ _ _) | exact absurd he ho)⟩
 | halt x w'=>cases x<;>simp only [Oper.uponIn]at hh ⊢ <;>first | exact absurd hh (hq _ _ _) | exact hh
theorem J4{c:ct}{hp mr:List Ck}{rd:List Nat}{ρ bF:Env}(h:kept c hp mr rd=true)(eV:g_ c ρ bF){j:Nat}(hj:j∈rd){a:Ck}(ha:hp[j]? =some a):
  ∃b,mr[j]? =some b∧b.den bF=a.den ρ:=by
 have h1:=aqn.1 h j hj;simp only [ha]at h1;split at h1
 ·rename_i x b hx hb;cases hx;split at h1
  ·rename_i l hl;refine⟨b,hb,(se eV.va hl fun y hy=>r_ eV (aqn.1 h1 y hy)).symm⟩
  ·cases h1
 ·rename_i hx;cases hx
 ·cases h1
theorem DI.effect{n:Nat}(LK:sQ P C al Fs w0 n){k:List KI}(gO:B_ ρ k ro)(h:DI P Fs w0 all ro nt a0 aM a w rest done log st ρ W)(uk:lu all pm=true)(Bk:yX all pm=true){e:Nat}{o:Oper}(he:all[e]? =some o)(her:e∈rest)
  (tq:kA aM e=false) (pk: ∀x∈o.after,aq4 .any x=true→kA aM x.on=true) (xC:qB st o.dst=true) {L:Nat→LC}
  (hv:VC P al (run C n (.ops all [o]:: .MQ all pm e rest done log st.fn st.nt st.fr st.hp st.aW::k) {st with fr:=restrict st.fr (slotsOf all o)}) ρ L) (Q:Exit→Act→World→Prop) (K:Act→World→Prop)
  (hK: ∀a' w',(∃m,m<n∧∃rest done log st bF L' W,VC P al (run C m (.sP all pm rest done log::k) st) bF L'∧Env.Le ρ bF∧(∀j,j<nl k→L' j=L j)∧DI P Fs w0 all ro nt a0 (aM.setIfInBounds e true) a' w' rest done log st bF W)→K a' w'):
  wpOpIn (FW ro) 0 P all Q e K a w:=by
 have heW:e ∉ W.map (·.1):=((h.rest e).1 her).2;have hel:e<aM.size:=by rw [h.Rj];exact(aqw.1 he).1
 have Zp:a.defers=(ng a0 W).defers:=by rw [h.act,lq,lq]
 have fy:nt.n≤a.tmps.size:=by rw [h.act,oL,←oL W];exact h.ha.size
 have ha:HA (restrict st.fr (slotsOf all o)) nt ρ a:=by
  refine wM h.ha (fun s hs=>?_) Zp fy;rw [h.act];have:=wN (a0:=a0) (aM:=aM) (W1:=W) (tail:=[]) (s:=s) (fun y hy Io=>h.before uk Bk he pk (tail:=[]) (by simp) heW (.inl hs) y hy Io) (fun y hy=>by cases hy)
  rwa [List.append_nil]at this
 have hw:HW Fs w0 {st with fr:=restrict st.fr (slotsOf all o)} ρ w:=
  ⟨h.hw.lens,aqn.2 fun x hx=>aqn.1 h.hw.lx x (aqL.1 hx).1,h.hw.gj,h.hw.ot,h.hw.kn,h.hw.own,h.hw.same,h.hw.mw⟩
 have TU:=LK ro all [o] _ _ ρ L a w hv hw (by rw [show({st with fr:=restrict st.fr (slotsOf all o)}:St).nt=st.nt from rfl,h.LJ];exact ha) (gO.push rfl);have fin: ∀a' w',QK P C al Fs w0 n (.MQ all pm e rest done log st.fn st.nt st.fr st.hp st.aW::k) ρ L .normal a' w'→(a'.defers≠a.defers∨∃u,a'=a.put o.dst u)→K a' w':=by
  intro a' w' hq xy;obtain⟨k',hk,m,hm,dO,bF,L',g1,g2,g3,g4,g5⟩:=hq;cases hk;cases m with
  | zero=>exact g5.elim
  | succ m=>
   simp only [run,he]at g5;split at g5
   case isFalse=>exact g5.elim
   rename_i Gy;rw [ai,beq_iff_eq]at Gy;obtain⟨Gy,AI⟩:=Gy;obtain⟨u,rfl⟩: ∃u,a'=a.put o.dst u:=by
    rcases xy with xy | xy
    ·rw [g4.defers,Zp,h.ha.defers,AI,h.LJ]at xy;exact absurd (uo (Env.Le.eH h.hw.lens g1) (by rw [←h.LJ];exact h.hw.mw)).symm xy
    ·exact xy
   split at g5
   case h_2=>exact g5.elim
   rename_i v rM;have eV:=Env.Le.eH h.hw.lens g1;have eG:=hG.le h.hw.lens g3.lens g1;have FQ:v.sc dO.aW=true:=by
    cases hd:o.dst with
    | none=>rw [hd]at rM;simp only [aqp]at rM;subst rM;rfl
    | some d=>rw [hd]at rM;exact B8 g3.lx rM
   have Ip:HW Fs w0 (gE dO st.fn st.nt st.fr) bF w':=⟨g3.lens,cP eG h.hw.lx,g3.gj,g3.ot,g3.kn,g3.own,g3.same,dF eG h.hw.mw⟩;have X5:=eI (gE dO st.fn st.nt st.fr) o.dst v;have vA: ∀j,kA (aM.setIfInBounds e true) j=(decide (e=j)||kA aM j):=fun j=>xU hel
   refine hK _ _ ⟨m,by omega,_,_,_,_,bF,L',W++[(e,o.dst,u)],g5,g1,g2,?_⟩;refine⟨Ip.put FQ,by rw [X5.2.2.2.1];exact h.LJ,?_,?_,?_,?_,?_,?_,by simp [h.Rj],?_,?_,?_⟩
   ·have f1:W.filter (fun y=>kA (aM.setIfInBounds e true) y.1)=W.filter (fun y=>kA aM y.1):=List.filter_congr fun y hy=>by
     have:e≠y.1:=fun ee=>heW (by rw [ee];exact aqV.2 ⟨y,hy,rfl⟩)
     rw [vA];simp [this]
    rw [List.filter_append,f1,List.filter_cons_of_pos (by rw [vA];simp),List.filter_nil,jN,uh,←h.act]
   ·rw [jN,uh];have ha3:=h.ha.more h.hw.lx (by rw [←h.LJ];exact h.hw.mw) eV;cases hd:o.dst with
    | none=>exact ha3
    | some d=>
     have hdl:d<nt.n:=by rw [←h.LJ];exact um xC d hd
     refine HA.put ha3 (fun x hx=>by cases hx;exact hdl) ?_ _ rfl;rw [hd]at rM;have:=g4.aU d v rM;rw [hd,yW a d u (aqz hdl fy)]at this;exact this
   ·rw [List.map_append,List.nodup_append];exact⟨h.nd,by simp,fun x hx y hy=>by
     simp only [aqP,List.map_nil,aqx]at hy;subst hy;intro hxy;subst hxy;exact heW hx⟩
   ·intro j;rw [wO,Bool.or_eq_true,h.done,List.map_append,aqC];simp only [decide_eq_true_eq,aqP,List.map_nil,aqx];exact⟨fun hj=>hj.imp id Eq.symm,fun hj=>hj.imp id Eq.symm⟩
   ·intro j;rw [aqL,h.rest,List.map_append,aqC];simp only [bne_iff_ne,ne_eq,aqP,List.map_nil,aqx,not_or,and_assoc]
   ·intro j hj;rw [List.map_append,aqC];rw [vA,Bool.or_eq_true]at hj;rcases hj with hj | hj
    ·right;rw [←of_decide_eq_true hj];simp
    ·exact .inl (h.sub j hj)
   ·intro p op Bl hp x hx hb;rw [vA,Bool.or_eq_true]at hp ⊢;rcases hp with hp | hp
    ·have:=of_decide_eq_true hp;subst this;rw [he]at Bl;cases Bl;exact .inr (pk x hx hb)
    ·exact .inr (h.X8 p op Bl hp x hx hb)
   ·intro W1 x W2 hW;rcases po hW with⟨rfl,rfl,rfl⟩ | ⟨J0,rfl,Rm⟩
    ·exact⟨o,he,rfl,fun x hx hb=>h.sub _ (pk x hx hb)⟩
    ·exact h.Rk W1 x J0 Rm
   ·intro W1 x W2 hW Gw;rcases po hW with⟨rfl,rfl,rfl⟩ | ⟨J0,rfl,Rm⟩
    ·rw [vA]at Gw;simp at Gw
    ·rw [vA,Bool.or_eq_false_iff]at Gw;obtain⟨o',rd,hp,rz,h1,h2,h3,h4⟩:=h.Rl W1 x J0 Rm Gw.2;refine⟨o',rd,hp,rz,h1,h2,h3,fun j hj ck DX=>?_⟩;obtain⟨Qq,JW,y0⟩:=h4 j hj ck DX;have hx:=aqn.1 Gy _ h2;simp only [Bool.or_eq_true]at hx;rcases hx with hx | hx
     ·have hxl:x.1<all.size:=(aqw.1 h1).1;have:=uj Bk (fun q=>kA aM q=true) h.X8 he pk hxl hx;rw [Gw.2]at this;cases this
     ·obtain⟨b,hb,hbd⟩:=J4 hx eV hj JW;exact⟨b,by rw [X5.1];exact hb,by rw [hbd,y0]⟩
 unfold wpOpIn;simp only [he];unfold wpListIn at TU;split
 ·rename_i mN;rw [if_pos mN]at TU;refine Oper.Gx (fun a' w' hh=>fin a' w' hh.1 hh.2) (fun c a' w' hq=>?_) (fun hq=>?_) (Oper.MP TU)
  ·obtain⟨k',hk,_⟩:=hq;cases hk
  ·obtain⟨_,_,k',hk,_⟩:=hq;cases hk
 ·rename_i mN;rw [if_neg mN]at TU;exact⟨TU.1,fin _ _ TU.2 (.inr ⟨undef,rfl⟩)⟩
theorem DI.descend(hT:bx P C.T=true){k:List KI}{L:Nat→LC}: ∀{m:Nat} {rest:List Nat} {done:Nat} {log:List (Nat×List Nat)} {st:St} {W:List Wr},
  VC P al (run C m (.sP all pm rest done log::k) st) ρ L→DI P Fs w0 all ro nt a0 aM a w rest done log st ρ W→
  ∃m',m'≤m∧∃rest done log st W,VC P al (run C m' (.sP all pm rest done log::k) st) ρ L∧DI P Fs w0 all ro nt a0 aM a w rest done log st ρ W∧
   (rest=[]∨(rest.find? fun i=>Cc all i&&mO all done i)=none)
 | 0,rest,done,log,st,W,hv,_=>hv.elim
 | m+1,[],done,log,st,W,hv,h=>⟨m+1,Nat.le_refl _,[],done,log,st,W,hv,h,.inl rfl⟩
 | m+1,x::r,done,log,st,W,hv,h=>by
  cases hf:(x::r).find? fun i=>Cc all i&&mO all done i with
  | none=>exact⟨m+1,Nat.le_refl _,x::r,done,log,st,W,hv,h,.inr hf⟩
  | some i=>
   have Cd:=List.mem_of_find?_eq_some hf;have fZ:=List.find?_some hf;simp only [ai]at fZ;simp only [run,hf]at hv;split at hv
   case h_2=>exact hv.elim
   rename_i o ho;split at hv
   case isFalse=>exact hv.elim
   rename_i xC;split at hv
   ·exact hv.elim
   ·rename_i g hg;split at hv
    case isFalse=>exact hv.elim
    rename_i hgs;split at hv
    case h_2=>exact hv.elim
    rename_i res D3;split at hv
    case h_2=>exact hv.elim
    rename_i Rn;obtain⟨bY,hv⟩:=iZ h.hw.kn hv;obtain⟨m',y5,q⟩:=DI.descend hT hv (h.quiet hT Cd fZ.2 ho xC hg hgs D3 Rn bY);exact⟨m',by omega,q⟩
def TV(all:Array Oper)(aM:Array Bool):Nat:=(List.range all.size).countP fun i=> !kA aM i
theorem Ro(hl:aM.size=all.size){i:Nat}(hi:i<all.size)(hn:kA aM i=false):TV all (aM.setIfInBounds i true)+1≤TV all aM:=by
 unfold TV;have key: ∀(l:List Nat),l.Nodup→i∈l→l.countP (fun j=> !kA (aM.setIfInBounds i true) j)+1≤l.countP (fun j=> !kA aM j):=by
  intro l
  induction l with
  | nil=>intro _ h;cases h
  | cons x r ih=>
   intro gV hm;rw [List.nodup_cons]at gV;rw [List.countP_cons,List.countP_cons,xU (by omega)];by_cases hx:i=x
   ·subst hx;have:r.countP (fun j=> !kA (aM.setIfInBounds i true) j)=r.countP (fun j=> !kA aM j):=List.countP_congr fun j hj=>by
     have:i≠j:=fun e=>gV.1 (e▸hj)
     rw [xU (by omega)];simp [this]
    rw [this];simp [hn]
   ·have y5:i∈r:=(List.mem_cons.1 hm).resolve_left hx;have:=ih gV.2 y5;simp only [hx,decide_false,Bool.false_or];omega
 exact key _ List.nodup_range (aqE.2 hi)
theorem MR(h:TV all aM=0): ∀i,i<all.size→kA aM i=true:=by
 intro i hi;unfold TV at h;rw [List.countP_eq_zero]at h;have:=h i (aqE.2 hi);simpa using this
theorem DI.J5(h:DI P Fs w0 all ro nt a0 aM a w rest done log st ρ W)(Bk:yX all pm=true)(hr:Region.ready .any all aM=[]): ∀i,i<all.size→kA aM i=true:=by
 intro i
 induction i using Nat.strongRecOn with
 | _ i ih=>
  intro hi;cases hl:kA aM i with
  | true=>rfl
  | false=>
   have hoi:all[i]? =some all[i]:=Array.getElem?_eq_getElem hi;have:i∈Region.ready .any all aM:=by
    rw [mem_ready];refine⟨?_,_,hoi,fun e he hb=>?_⟩
    ·have DZ:i<aM.size:=by rw [h.Rj];exact hi
     unfold kA at hl;rw [aqK,Array.getElem?_eq_getElem DZ]at hl ⊢;exact hl
    ·have:=(vq Bk hoi).1 e he hb;exact ih e.on this (by omega)
   rw [hr]at this;cases this
theorem Iq{aM:Array Bool}{a:Act}{w:World}{m:Nat}{n:Nat}{rest:List Nat}{done:Nat}{log:List (Nat×List Nat)}{st:St}{ρ:Env}{W:List Wr}{k:List KI}{L:Nat→LC}{Im:Env}{Lb:Nat→LC}
  (oH: ∀i,i<all.size→kA aM i=true) (hm:m≤n) (hv:VC P al (run C m (.sP all pm rest done log::k) st) ρ L) (hle:Env.Le Im ρ) (hL: ∀j,j<nl k→L j=Lb j)
  (h:DI P Fs w0 all ro nt a0 aM a w rest done log st ρ W):QK P C al Fs w0 n k Im Lb .normal a w:=by
 have X9:rest=[]:=by
  cases hr:rest with
  | nil=>rfl
  | cons x r=>
   have:=(h.rest x).1 (by rw [hr];exact aqr);exact absurd (h.sub x (oH x this.1)) this.2
 subst X9;cases m with
 | zero=>exact hv.elim
 | succ m=>
  simp only [run]at hv;have hW:W.filter (fun x=>kA aM x.1)=W:=by
   rw [List.filter_eq_self];intro x hx;obtain⟨A,B,hAB⟩:=List.append_of_mem hx;obtain⟨o,ho,_⟩:=h.Rk A x B hAB;exact oH x.1 (aqw.1 ho).1
  have Zq:=h.act;rw [hW]at Zq;refine⟨k,rfl,m,by omega,st,ρ,L,hle,hL,h.hw,?_,hv⟩;rw [Zq,h.LJ];exact h.ha
theorem Bm{ρ:Env}{L:Nat→LC}: ∀{l:List F},VC P al (MS l) ρ L→∀x∈l,VC P al x ρ L
 | [],h,_,_=>h.elim
 | [x],h,y,hy=>by
  rw [aqx]at hy;exact hy▸h
 | x::y::r,h,z,hz=>by
  rcases List.mem_cons.1 hz with rfl | hz
  ·exact h.1
  ·exact Bm h.2 z hz
theorem MT(hT:bx P C.T=true){n:Nat}(LK: ∀m,m<n→sQ P C al Fs w0 m)(uk:lu all pm=true)(Bk:yX all pm=true){k:List KI}{Im:Env}{Lb:Nat→LC}(gO:B_ Im k ro):
  ∀(fuel:Nat) (aM:Array Bool) (a:Act) (w:World),TV all aM≤fuel→
   (∃m,m≤n∧∃rest done log st ρ L W,VC P al (run C m (.sP all pm rest done log::k) st) ρ L∧Env.Le Im ρ∧(∀j,j<nl k→L j=Lb j)∧DI P Fs w0 all ro nt a0 aM a w rest done log st ρ W)→
   wpAnyIn (FW ro) 0 P .any all (QK P C al Fs w0 n k Im Lb) fuel aM a w:=by
 intro fuel
 induction fuel with
 | zero=>
  intro aM a w hf ⟨m,hm,rest,done,log,st,ρ,L,W,hv,hle,hL,h⟩;have oH:=MR (Nat.le_zero.1 hf);refine⟨?_,?_⟩
  ·cases hr:Region.ready .any all aM with
   | nil=>rfl
   | cons i r=>
    have:i∈Region.ready .any all aM:=by rw [hr];exact aqr
    rw [mem_ready]at this;obtain⟨h0,o,ho,_⟩:=this;have hi:i<all.size:=(aqw.1 ho).1;have hl:=oH i hi;unfold kA at hl;have DZ:i<aM.size:=by rw [h.Rj];exact hi
    rw [aqK,Array.getElem?_eq_getElem DZ]at hl h0;simp at hl h0;rw [hl]at h0;cases h0
  ·exact Iq oH hm hv hle hL h
 | succ fuel ih=>
  intro aM a w hf ⟨m,hm,rest,done,log,st,ρ,L,W,hv,hle,hL,h⟩;refine⟨fun hr=>Iq (h.J5 Bk hr) hm hv hle hL h,fun i hi=>?_⟩;rw [mem_ready]at hi;obtain⟨h0,o,ho,AH⟩:=hi;have DZ:i<all.size:=(aqw.1 ho).1;have tq:kA aM i=false:=by
   have:i<aM.size:=by rw [h.Rj];exact DZ
   unfold kA;rw [aqK,Array.getElem?_eq_getElem this]at h0 ⊢;exact h0
  have Zr:TV all (aM.setIfInBounds i true)≤fuel:=by
   have:=Ro h.Rj DZ tq;omega
  obtain⟨m',y5,MU,MV,adR,dO,W',rM,h',Rp⟩:=DI.descend hT hv h;by_cases TS:i∈W'.map (·.1)
  ·exact h'.pending uk Bk ho tq AH TS _ _ fun a' hD=>ih _ _ _ Zr ⟨m',by omega,MU,MV,adR,dO,ρ,L,W',rM,hle,hL,hD⟩
  ·have U4:i∈MU:=(h'.rest i).2 ⟨DZ,TS⟩;have cN:mO all MV i=true:=J1 ho fun e he hb=>(h'.done _).2 (h'.sub _ (AH e he hb))
   rcases Rp with rfl | Rp
   ·cases U4
   ·cases m' with
    | zero=>exact rM.elim
    | succ m'=>
     cases X9:MU with
     | nil=>rw [X9]at U4;cases U4
     | cons x r=>
      rw [X9]at rM Rp;simp only [run,Rp]at rM;have hiL:i∈(x::r).filter (mO all MV):=aqL.2 ⟨X9▸U4,cN⟩;have rM:=Bm rM _ (aqV.2 ⟨i,hiL,rfl⟩);simp only [ho]at rM;split at rM
      case isFalse=>exact rM.elim
      rename_i xC;rw [←X9]at rM;refine DI.effect (LK m' (by omega)) (gO.le hle) h' uk Bk ho U4 tq AH xC rM _ _ fun a' w' hq=>ih _ _ _ Zr ?_
      obtain⟨m2,Zs,Zt,Zu,log2,D4,Ir,L2,W2,q1,q2,q3,q4⟩:=hq;exact⟨m2,by omega,Zt,Zu,log2,D4,Ir,L2,W2,q1,hle.trans q2,fun j hj=>(q3 j hj).trans (hL j hj),q4⟩
theorem HW.drew(h:HW Fs w0 st ρ w)(d:Nat):HW Fs w0 st ρ {w with drawn:=d}:=by
 refine⟨h.lens,h.lx,h.gj,h.ot,h.kn,?_,h.same.trans ⟨rfl,rfl,rfl,Nat.le_refl _⟩,h.mw⟩;obtain⟨S,hS⟩:=h.own;exact⟨S,hS.UL (Nat.le_refl _) fun _ _=>rfl⟩
theorem D5(hT:bx P C.T=true)(hm:P.follows .mixedOrders=true){n:Nat}(LK: ∀m,m<n→sQ P C al Fs w0 m):Gz P C al Fs w0 n:=by
 intro ro id all pm k st ρ L a w hv uk Bk hw ha gO;refine wpIn_region_any hm (MT (ro:=ro) (nt:=st.nt) (a0:=a) hT LK uk Bk gO _ _ _ _ ?_ ⟨n,Nat.le_refl _,_,_,_,_,ρ,L,[],hv,Env.Le.refl _,fun _ _=>rfl,?_⟩)
 ·unfold TV;exact Nat.le_trans List.countP_le_length (by simp)
 ·have FX: ∀i,kA (Array.replicate all.size false) i=false:=by
   intro i;unfold kA;rw [aqK];by_cases hi:i<all.size
   ·simp [hi]
   ·rw [Array.getElem?_eq_none (by simpa using hi)];rfl
  refine⟨hw.drew _,rfl,rfl,ha,List.nodup_nil,fun i=>by simp,fun i=>by simp,fun i hi=>?_,by simp,fun p o _ hp=>?_,fun W1 x W2 hW=>?_,fun W1 x W2 hW=>?_⟩
  ·rw [FX]at hi;cases hi
  ·rw [FX]at hp;cases hp
  ·simp at hW
  ·simp at hW
end
section
variable {P:Program} {C:Ctx} {al:Value→List HP→Prop} {Fs:List HP} {w0:World}
theorem Bn(hT:bx P C.T=true){n N:Nat}(hnN:n<N)(wQ: ∀m,m<N→qC P C al Fs w0 m){ro:Option Nat}{c:Code}{fd:Func}{f:Nat}(hf:P.funcs[f]? =some fd)(hb:fd.body=some c){k:List KI}{st:St}{ρ Im:Env}{L Lb:Nat→LC}{w:World}
  {az:List SV} {l r fn:Nat} {nt:NT} {fr:List (Nat×SV)} {ps:Array Tmp} {x y:Code} {a':Act}
  (hv:VC P al (run C n (.code c:: .rf l r fn nt fr ps x y fd::k) (gE st f ⟨fd.ntmps,[]⟩ (fc 0 az))) ρ L) (jt:SV.pN st.aW az=true) (hw:HW Fs w0 st ρ w)
  (gO:B_ ρ (.rf l r fn nt fr ps x y fd::k) none) (TW:B_ ρ k ro) (TM:lW st.aW fr=true) (LL:nt.ds.all (MK.sc st.aW)=true) (ha:HA fr nt ρ a') (hle:Env.Le Im ρ) (hL: ∀j,j<nl k→L j=Lb j) (hl:l<st.aW.b):
  CallsIn (FW none) 0 P f (SV.bD ρ az).toArray w (rangePost (FW ro) 0 P (ρ.bv.getD l 0) (QK P C al Fs w0 N k Im Lb) a'):=by
 refine callsIn_of_wp_marks hf hb trivial ?_ rfl;have U5:HW Fs w0 (gE st f ⟨fd.ntmps,[]⟩ (fc 0 az)) ρ w:=⟨hw.lens,xV az 0 jt,hw.gj,hw.ot,hw.kn,hw.own,hw.same,rfl⟩;refine wpIn_mono (wQ n hnN none c _ _ ρ L _ w hv U5 (y6 az fd.ntmps) gO) ?_;have key: ∀a1 w1,At P C al Fs w0 n (.rf l r fn nt fr ps x y fd::k) ρ L a1 w1→LeavesInM (FW none) 0 P fd a1.tmps (rangePost (FW ro) 0 P (ρ.bv.getD l 0) (QK P C al Fs w0 N k Im Lb) a') a1.defers .returning w1:=by
  intro a1 w1 ⟨m,hm,dO,bF,L',h1,h2,h3,h4,h5⟩;cases m with
  | zero=>exact h5.elim
  | succ m=>
   simp only [run]at h5;split at h5
   case h_2=>exact h5.elim
   rename_i D4 Is;have MW:D4.fr=dO.fr∧D4.nt=dO.nt∧D4.aW=dO.aW:=by
    unfold nD at Is;rw [aqq]at Is;obtain⟨mr,_,rfl⟩:=Is;exact⟨rfl,rfl,rfl⟩
   split at h5
   case h_2=>exact h5.elim
   rename_i v i r' s j hv GA;split at h5
   ·exact h5.elim
   ·rename_i Zv;refine nY Is h3 h4 fun w2 Ce=>?_
    refine⟨_,pq hT Ce (nt:=dO.nt) (by rw [MW.1];exact h4) hv,?_⟩;have lF:=my Ce GA;have Zw:bF.bv.getD l 0=ρ.bv.getD l 0:=((Env.Le.eH hw.lens h1).b l hl).symm;rw [Zw]at lF;refine⟨j.code,_,run_endLoop lF (by cases s<;>first | (simp [RS.st];done) | exact absurd rfl Zv),?_⟩;have Ip:=Cf Ce GA .exhausted j;rw [Zw]at Ip;have eG:=hG.le hw.lens Ce.lens h1;have MX:HW Fs w0 (gE {D4 with hp:=D4.hp.set i (.lG l r' .exhausted j)} fn nt fr) bF _:=⟨Ip.lens,cP eG TM,Ip.gj,Ip.ot,Ip.kn,Ip.own,Ip.same,dF eG LL⟩;have ha4:HA fr nt bF a':=ha.more TM LL (Env.Le.eH hw.lens h1);have UQ: ∀q,q<nl k→L' q=Lb q:=fun q hq=>(h2 q hq).trans (hL q hq)
    cases j with
    | none=>
     exact⟨k,rfl,m,by omega,_,bF,L',hle.trans h1,UQ,MX,ha4,h5⟩
    | ret=>
     exact wpIn_mono (wQ m (by omega) ro .ret k _ bF L' a' _ h5 MX ha4 (TW.le h1)) fun e a w hq=>hq.mono (by omega) (hle.trans h1) UQ
    | exit id=>
     exact wpIn_mono (wQ m (by omega) ro (.exit id) k _ bF L' a' _ h5 MX ha4 (TW.le h1)) fun e a w hq=>hq.mono (by omega) (hle.trans h1) UQ
 intro e a1 w1 hq;obtain⟨k',hk,dK⟩:=hq;cases e with
 | normal=>cases hk;exact key a1 w1 dK
 | ret=>cases hk;exact key a1 w1 dK
 | exit id=>cases hk
 | goto l=>cases hk
 | panic l=>cases hk
 | outgrown=>cases hk
theorem J6{ρ:Env}{c:ct}(h:hG ρ c)(l:Nat)(q:Loop):hG (ρ.ext ⟨[l],[],[],[],[],[],[q]⟩) {c with b:=c.b+1,r:=c.r+1}:=
 ⟨by simp [Env.ext,h.b],by simp [Env.ext,h.v],by simp [Env.ext,h.i],by simp [Env.ext,h.a],by simp [Env.ext,h.bo],by simp [Env.ext,h.p],by simp [Env.ext,h.r]⟩
theorem J7{ρ:Env}{c:ct}(h:hG ρ c)(d l:Nat)(q:Loop):hG (ρ.ext ⟨[d,l],[],[],[],[],[],[q]⟩) {c with b:=c.b+2,r:=c.r+1}:=
 ⟨by simp [Env.ext,h.b],by simp [Env.ext,h.v],by simp [Env.ext,h.i],by simp [Env.ext,h.a],by simp [Env.ext,h.bo],by simp [Env.ext,h.p],by simp [Env.ext,h.r]⟩
theorem sR(w:World)(o:Obj):ic w (w.alloc o):=⟨rfl,rfl,rfl,by simp⟩
theorem D6(hT:bx P C.T=true)(Bo:aH P C.FT){n:Nat}(wQ: ∀m,m<n→qC P C al Fs w0 m):MY P C al Fs w0 n:=by
 intro ro g ps x y k st ρ L a w hv hw ha gO;cases n with
 | zero=>exact hv.elim
 | succ n=>
  have hn:n<n+1:=Nat.lt_succ_self n;simp only [run]at hv;split at hv
  case h_2=>exact hv.elim
  rename_i f iR hg;have hev:=ep ha.eval hg;split at hv
  ·exact hv.elim
  rename_i fd y7;have Cd:=List.mem_of_find?_eq_some y7;have JG:=List.find?_some y7;simp only [beq_iff_eq]at JG;obtain⟨hf,D7⟩:=Bo _ Cd;simp only at hf D7;rw [JG]at hf;split at hv
  ·exact hv.elim
  rename_i c hb;split at hv
  case isFalse=>exact hv.elim
  rename_i Bp;have U6: ¬fd.name= "runtime.NumGoroutine" :=by simpa using D7
  have D3: ∀(l:Nat) (w1:World),(resolve a.eval (rangeCall g l) 0).run P w1= .ok {target:= .fn (.func f) (SV.bD ρ iR).toArray,args:= #[.func (.yield l) #[] #[]]} w1:=by
   intro l w1;simp only [resolve,hev,SV.val,Deferred.ofValue];simp [Act.eval]
  have hinv: ∀(l:Nat) (w1:World),(invoke (.fn (.func f) (SV.bD ρ iR).toArray) #[.func (.yield l) #[] #[]]).run P w1= .ok (.enter f (#[.func (.yield l) #[] #[]]++(SV.bD ρ iR).toArray)) w1:=by
   intro l w1;simp [invoke,callFunc,hf,U6,hb]
  have JT:=gO.ro;split at hv
  ·
   rename_i har;rw [har]at JT;simp only at JT;subst JT;refine wpIn_rangeFunc fun fn _=>?_
   have e1:=run_enterLoop_outer (P:=P) (w:=w) fn a.tmps ps x y;refine⟨_,_,_,_,_,f,_,_,e1,D3 _ _,fun _ _=>trivial,hinv _ _,fun h=>(by cases h),?_⟩;simp only [VC]at hv;have wJ:=hv w.heap.size (w.heap.size+1) {state:= .ready,pending:=none,fn,tmps:=a.tmps,params:=ps,assign:=x,body:=y,defers:=w.heap.size};generalize hq:({state:= .ready,pending:=none,fn,tmps:=a.tmps,params:=ps,assign:=x,body:=y,defers:=w.heap.size}:Loop)=q at wJ e1 ⊢;have hle:=Env.im ρ ⟨[w.heap.size,w.heap.size+1],[],[],[],[],[],[q]⟩;have eV:=Env.Le.eH hw.lens hle;have hl:=J7 hw.lens w.heap.size (w.heap.size+1) q;have eG:=hG.le hw.lens hl hle;have b1:(ρ.ext ⟨[w.heap.size,w.heap.size+1],[],[],[],[],[],[q]⟩).bv.getD st.aW.b 0=w.heap.size:=by simp [Env.ext,←hw.lens.b]
   have b2:(ρ.ext ⟨[w.heap.size,w.heap.size+1],[],[],[],[],[],[q]⟩).bv.getD (st.aW.b+1) 0=w.heap.size+1:=by simp [Env.ext,←hw.lens.b]
   have b3:(ρ.ext ⟨[w.heap.size,w.heap.size+1],[],[],[],[],[],[q]⟩).lr.getD st.aW.r je=q:=by simp [Env.ext,←hw.lens.r]
   have hqr:({q with state:=RS.ready.st,pending:=Jump.none.code}:Loop)=q:=by subst hq;rfl
   have J8:q.params=ps:=by subst hq;rfl
   have hqa:q.assign=x:=by subst hq;rfl
   have hqb:q.body=y:=by subst hq;rfl
   have hqt:q.tmps=a.tmps:=by subst hq;rfl
   clear hq;generalize adW:ρ.ext ⟨[w.heap.size,w.heap.size+1],[],[],[],[],[],[q]⟩=rz at wJ hle eV hl b1 b2 b3;have Zx:bG ((st.hp.map (Ck.den rz)++[yu w.heap.size])++Fs) (w.alloc (.deferred (some []))):=by
    refine bG.add (by rw [←kK eV hw.gj];exact hw.own) _ (fun k=>k=w.heap.size) (by simp) (fun k hk=>heap_alloc_old w _ hk) ⟨fun _=>Iff.rfl,heap_alloc_new w _⟩ (fun k hk=>by simp;omega)
   have MZ:bG (((st.hp.map (Ck.den rz)++[yu w.heap.size])++[Mn (w.heap.size+1) q])++Fs) ((w.alloc (.deferred (some []))).alloc (.loop q)):=by
    have fy:(w.alloc (.deferred (some []))).heap.size=w.heap.size+1:=by simp
    refine bG.add Zx _ (fun k=>k=w.heap.size+1) (by simp) (fun k hk=>heap_alloc_old _ _ hk) ⟨fun _=>Iff.rfl,?_⟩ (fun k hk=>by simp;omega);have:=heap_alloc_new (w.alloc (.deferred (some []))) (.loop q)
    rwa [fy]at this
   have xR:HW Fs w0 {st with hp:=st.hp++[.JV st.aW.b]++[.lG (st.aW.b+1) st.aW.r .ready .none],aW:={st.aW with b:=st.aW.b+2,r:=st.aW.r+1}} rz ((w.alloc (.deferred (some []))).alloc (.loop q)):=by
    refine⟨hl,cP eG hw.lx,?_,fF eG hw.ot,fun b hb=>(BE.iE eV (aqn.1 hw.ot b hb)).1 (hw.kn b hb),?_,(hw.same.trans (sR _ _)).trans (sR _ _),dF eG hw.mw⟩
    ·simp only [List.all_append,ai,List.all_cons,List.all_nil,Ck.sc,aqB];exact⟨⟨ju eG hw.gj,by omega,trivial⟩,⟨by omega,by omega⟩,trivial⟩
    ·simp only [List.map_append,aqP,List.map_nil,Ck.den,b1,b2,b3,hqr];exact MZ
   have M0:lW {st.aW with b:=st.aW.b+2,r:=st.aW.r+1} st.fr=true:=cP eG hw.lx;have adX:(MK.one st.aW.b::st.nt.ds).all (MK.sc {st.aW with b:=st.aW.b+2,r:=st.aW.r+1})=true:=by
    rw [List.all_cons,ai,MK.sc,aqB];exact⟨by show st.aW.b<st.aW.b+2;omega,dF eG hw.mw⟩
   have GB:=ha.more hw.lx hw.mw eV;have D8:B_ rz (.rf (st.aW.b+1) st.aW.r st.fn ⟨st.nt.n,.one st.aW.b::st.nt.ds⟩ st.fr ps x y fd::k) none:=by
    refine⟨fun l r fn nt fr ps' x' y' Zy hm=>?_,rfl⟩;rcases List.mem_cons.1 hm with hm | hm
    ·cases hm;refine⟨rz,_,hl,Env.Le.refl _,M0,by simp,by rw [b3,J8],by rw [b3,hqa],by rw [b3,hqb],?_⟩;rw [b3,hqt];exact⟨rfl,GB.size,GB.aU⟩
    ·exact(gO.le hle).rf l r fn nt fr ps' x' y' Zy hm
   have qD:=Bn (Lb:=L) hT hn wQ hf hb (a':={a with defers:=[{target:= .collected w.heap.size,args:= #[]}]++a.defers}) wJ
    (by simp only [SV.pN,SV.sc,ai,aqB];exact⟨by omega,SV.fb eG Bp⟩) xR D8 (gO.le hle) M0 adX
    ⟨by rw [ha.defers,uo eV hw.mw];simp only [marks,List.flatMap_cons,MK.blocks,aqP,b1,List.singleton_append],GB.size,GB.aU⟩ hle (fun _ _=>rfl) (by simp)
   rw [b2]at qD;have kB:(SV.bD rz (.Jq (st.aW.b+1)::iR)).toArray= #[.func (.yield (w.heap.size+1)) #[] #[]]++(SV.bD ρ iR).toArray:=by
    simp only [SV.bD,SV.val,b2,(SV.gi eV Bp).1];simp
   rw [kB]at qD;exact qD
  ·
   rename_i l0 har;rw [har]at JT;simp only at JT;obtain⟨wR,c0,k1,k2,k3,k4⟩:=JT;rw [(Env.Le.eH k1 k2).b l0 k3]at k4;split at hv
   case h_2=>exact hv.elim
   rename_i rc GA;obtain⟨i0,r0,s0,j0⟩:=rc;have lF:=my hw GA;refine wpIn_rangeFunc fun fn _=>?_
   have e1:=run_enterLoop_inner (P:=P) (w:=w) lF fn a.tmps ps x y;rw [show(FW ro).round=ro from rfl,k4];refine⟨_,_,_,_,_,f,_,_,e1,D3 _ _,fun _ _=>trivial,hinv _ _,fun h=>(by cases h),?_⟩;simp only [VC]at hv;have wJ:=hv w.heap.size {state:= .ready,pending:=none,fn,tmps:=a.tmps,params:=ps,assign:=x,body:=y,defers:=({ρ.lr.getD r0 je with state:=s0.st,pending:=j0.code}:Loop).defers};generalize hq:({state:= .ready,pending:=none,fn,tmps:=a.tmps,params:=ps,assign:=x,body:=y,defers:=({ρ.lr.getD r0 je with state:=s0.st,pending:=j0.code}:Loop).defers}:Loop)=q at wJ e1 ⊢;have hle:=Env.im ρ ⟨[w.heap.size],[],[],[],[],[],[q]⟩;have eV:=Env.Le.eH hw.lens hle;have hl:=J6 hw.lens w.heap.size q;have eG:=hG.le hw.lens hl hle;have b2:(ρ.ext ⟨[w.heap.size],[],[],[],[],[],[q]⟩).bv.getD st.aW.b 0=w.heap.size:=by simp [Env.ext,←hw.lens.b]
   have b3:(ρ.ext ⟨[w.heap.size],[],[],[],[],[],[q]⟩).lr.getD st.aW.r je=q:=by simp [Env.ext,←hw.lens.r]
   have hqr:({q with state:=RS.ready.st,pending:=Jump.none.code}:Loop)=q:=by subst hq;rfl
   have J8:q.params=ps:=by subst hq;rfl
   have hqa:q.assign=x:=by subst hq;rfl
   have hqb:q.body=y:=by subst hq;rfl
   have hqt:q.tmps=a.tmps:=by subst hq;rfl
   clear hq;generalize adW:ρ.ext ⟨[w.heap.size],[],[],[],[],[],[q]⟩=rz at wJ hle eV hl b2 b3;have MZ:bG ((st.hp.map (Ck.den rz)++[Mn w.heap.size q])++Fs) (w.alloc (.loop q)):=by
    refine bG.add (by rw [←kK eV hw.gj];exact hw.own) _ (fun k=>k=w.heap.size) (by simp) (fun k hk=>heap_alloc_old w _ hk) ⟨fun _=>Iff.rfl,heap_alloc_new w _⟩ (fun k hk=>by simp;omega)
   have xR:HW Fs w0 {st with hp:=st.hp++[.lG st.aW.b st.aW.r .ready .none],aW:={st.aW with b:=st.aW.b+1,r:=st.aW.r+1}} rz (w.alloc (.loop q)):=by
    refine⟨hl,cP eG hw.lx,?_,fF eG hw.ot,fun b hb=>(BE.iE eV (aqn.1 hw.ot b hb)).1 (hw.kn b hb),?_,hw.same.trans (sR _ _),dF eG hw.mw⟩
    ·simp only [List.all_append,ai,List.all_cons,List.all_nil,Ck.sc,aqB];exact⟨ju eG hw.gj,⟨by omega,by omega⟩,trivial⟩
    ·simp only [List.map_append,aqP,List.map_nil,Ck.den,b2,b3,hqr];exact MZ
   have M0:lW {st.aW with b:=st.aW.b+1,r:=st.aW.r+1} st.fr=true:=cP eG hw.lx;have GB:=ha.more hw.lx hw.mw eV;have D8:B_ rz (.rf st.aW.b st.aW.r st.fn st.nt st.fr ps x y fd::k) none:=by
    refine⟨fun l r fn nt fr ps' x' y' Zy hm=>?_,rfl⟩;rcases List.mem_cons.1 hm with hm | hm
    ·cases hm;refine⟨rz,_,hl,Env.Le.refl _,M0,by simp,by rw [b3,J8],by rw [b3,hqa],by rw [b3,hqb],?_⟩;rw [b3,hqt];exact⟨rfl,GB.size,GB.aU⟩
    ·exact(gO.le hle).rf l r fn nt fr ps' x' y' Zy hm
   have qD:=Bn (Lb:=L) (ro:=ro) hT hn wQ hf hb (a':={a with defers:=[]++a.defers}) wJ
    (by simp only [SV.pN,SV.sc,ai,aqB];exact⟨by omega,SV.fb eG Bp⟩) xR D8 (gO.le hle) M0 (dF eG hw.mw)
    ⟨GB.defers,GB.size,GB.aU⟩ hle (fun _ _=>rfl) (by simp)
   rw [b2]at qD;have kB:(SV.bD rz (.Jq st.aW.b::iR)).toArray= #[.func (.yield w.heap.size) #[] #[]]++(SV.bD ρ iR).toArray:=by
    simp only [SV.bD,SV.val,b2,(SV.gi eV Bp).1];simp
   rw [kB]at qD;rw [k4]at qD;exact qD
end
section
variable {P:Program} {C:Ctx} {al:Value→List HP→Prop} {Fs:List HP} {w0:World}
theorem J9(hT:bx P C.T=true)(Bo:aH P C.FT)(D_:iu P C)(hm:P.follows .mixedOrders=true)(n:Nat):qC P C al Fs w0 n∧sQ P C al Fs w0 n∧Gz P C al Fs w0 n:=by
 induction n using Nat.strongRecOn with
 | _ n ih=>exact⟨Ea hT (fun m hm=>(ih m hm).1) (fun m hm=>(ih m hm).2.1) (fun m hm=>(ih m hm).2.2) (D6 hT Bo fun m hm=>(ih m hm).1),Eb hT Bo D_ (fun m hm=>(ih m hm).1) (fun m hm=>(ih m hm).2.1),D5 hT hm (fun m hm=>(ih m hm).2.1)⟩
theorem aq.GC(hT:bx P C.T=true)(Bo:aH P C.FT)(hm:P.follows .mixedOrders=true){f:Nat}{fd:Func}(hf:P.funcs[f]? =some fd){args:List SV}{hp:List Ck}{aW:ct}{ρ:Env}(hl:hG ρ aW)
  (h:VC P al (nZ C f args hp aW fd) ρ fun _=>LC.none) (D_:iu P C:=by exact iu.none rfl):aq P f (SV.bD ρ args) (hp.map (Ck.den ρ)) al:=by
 intro w Fs cY;unfold nZ at h;split at h
 case h_2=>exact h.elim
 rename_i c hb;split at h
 case isFalse=>exact h.elim
 rename_i jt;simp only [ai]at jt;have hw:HW Fs w {fn:=f,fr:=fc 0 args,hp:=hp,aW:=aW,nt:=⟨fd.ntmps,[]⟩} ρ w:=
  ⟨hl,xV args 0 jt.1,jt.2,rfl,fun b hb=>(by cases hb),cY,ic.refl w,rfl⟩
 have TU:=(J9 (al:=al) (Fs:=Fs) (w0:=w) hT Bo D_ hm 100000).1 none c _ _ ρ _ _ w h hw (y6 args fd.ntmps) ⟨fun l r fn nt fr ps x y fd hm=>(by simp at hm),rfl⟩;have key: ∀a' w',At P C al Fs w 100000 [.top fd] ρ (fun _=>LC.none) a' w'→LeavesInM (FW none) 0 P fd a'.tmps (fun e w'=> ∃v hs,e= .returned v∧al v hs∧bG (hs++Fs) w'∧ic w w') a'.defers .returning w':=by
  intro a' w' ⟨m,hm,dO,bF,L',h1,h2,h3,h4,h5⟩;cases m with
  | zero=>exact h5.elim
  | succ m=>
   simp only [run]at h5;split at h5
   case h_2=>exact h5.elim
   rename_i D4 Is;have MW:D4.fr=dO.fr:=by
    unfold nD at Is;rw [aqq]at Is;obtain⟨mr,_,rfl⟩:=Is;rfl
   split at h5
   ·rename_i v hv;refine nY Is h3 h4 fun w2 Ce=>?_
    exact⟨_,pq hT Ce (nt:=dO.nt) (by rw [MW];exact h4) hv,_,_,rfl,h5,Ce.own,Ce.same⟩
   ·exact h5.elim
 have fin: ∀e a' w',QK P C al Fs w 100000 [.top fd] ρ (fun _=>LC.none) e a' w'→bodyPostM (FW none) 0 P fd (fun e w'=> ∃v hs,e= .returned v∧al v hs∧bG (hs++Fs) w'∧ic w w') e a' w':=by
  intro e a' w' hq;obtain⟨k',hk,dK⟩:=hq;cases e with
  | normal=>cases hk;exact key a' w' dK
  | ret=>cases hk;exact key a' w' dK
  | exit id=>cases hk
  | goto l=>cases hk
  | panic l=>cases hk
  | outgrown=>cases hk
 have main:CallsIn (FW none) 0 P f (SV.bD ρ args).toArray w (fun e w'=> ∃v hs,e= .returned v∧al v hs∧bG (hs++Fs) w'∧ic w w'):=by
  refine callsIn_of_wp_marks hf hb trivial (wpIn_mono TU ?_) rfl;exact fin
 have main':CallsIn Fence.wide 0 P f (SV.bD ρ args).toArray w (fun e w'=> ∃v hs,e= .returned v∧al v hs∧bG (hs++Fs) w'∧ic w w'):=main;exact callsIn_wide.1 main'
end
theorem aH.nil{P:Program}:aH P []:=fun x hx=>(by cases hx)
theorem aH.cons{P:Program}{FT:List (Nat×Func)}{f:Nat}{fd:Func}(h:P.funcs[f]? =some fd)(hn:(fd.name== "runtime.NumGoroutine")=false)(hr:aH P FT):aH P ((f,fd)::FT):=by
 intro x hx;rcases List.mem_cons.1 hx with rfl | hx
 ·exact⟨h,hn⟩
 ·exact hr x hx
def BE.sS(b:BE):Option Bool:=if b.sc {}then some (b.den y8)else none
theorem aq.law{P:Program}{f:Nat}{args:List Value}{pre:List HP}(h:aq P f args pre fun v _=>v= .bool true)(w:World)(cY:bG (pre++[yv w.heap.size w]) w):
  Calls P f args.toArray w fun e w'=>e= .returned (.bool true)∧RowKit.Below w.heap.size w w':=by
 refine(h w _ cY).mono ?_;rintro e w' ⟨v,hs,rfl,rfl,⟨S,hS⟩,sU⟩;refine⟨rfl,?_⟩;have:=(hS.at_ hs.length (yv w.heap.size w) (by simp)).1;exact⟨sU.os,sU.tape,sU.output,sU.size,fun k hk=>this.2 k hk⟩
end Go.RX
