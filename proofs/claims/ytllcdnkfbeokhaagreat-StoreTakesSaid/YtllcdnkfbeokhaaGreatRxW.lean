/- Executor. -/
import Derived.Test.YtllcdnkfbeokhaaGreatRxV
open Bool renaming and_eq_true → ai
open List renaming all_eq_true → aqn, getElem?_append_left → aqs, getElem?_eq_some_iff → aqo, mem_append → aqC, mem_filter → aqL, mem_or_eq_of_mem_set → aqT
open Nat renaming blt_eq → aqB
namespace Go.RX
def FW(ro:Option Nat):Fence:={Fence.wide with round:=ro}
section
variable {P:Program} {C:Ctx} {al:Value→List HP→Prop} {Fs:List HP} {w0:World} {ρ:Env} {a:Act} {w:World}
def ab0(e:yZ)(r:F):F:=
 match e with
 | .new _=> .BQ r
 | .app .. => .uY r
 | .own .. => .uY r
 | .DM .. => .uY r
 | _=>r
theorem y4{st:St}(S:Nat→Nat→Prop)(hS:Sep (st.hp.map (Ck.den ρ)++Fs) S w)(rd:List Nat):Reads st.hp ρ w S rd:=by
 intro j _ ck hj;refine(hS.at_ j (ck.den ρ) ?_).1;rw [aqs (by simpa using (aqo.1 hj).1),List.getElem?_map,hj];rfl
theorem AT(st:St)(e:yZ):(dJ st e).fr=st.fr∧(dJ st e).nt=st.nt∧(dJ st e).fn=st.fn∧(dJ st e).known=st.known∧(dJ st e).aW=e.grow st.aW:=by
 cases e<;>exact⟨rfl,rfl,rfl,rfl,rfl⟩
theorem P_{st:St}{res:gY}{S:Nat→Nat→Prop}{run:Result Next}{r:F}{L:Nat→LC}(hw:HW Fs w0 st ρ w)(hS:Sep (st.hp.map (Ck.den ρ)++Fs) S w)
  (hd:Did P ρ w st.hp S st.aW.b st.aW.v run res) (jt:res.sc st.aW=true) (bY: ∀b∈res.vcs,b.prop ρ) (hv:VC P al (ab0 res.gZ r) ρ L):
  ∃u w' bF,(run= .ok (.value u) w'∨(u=undef∧run= .ok .skip w'))∧Env.Le ρ bF∧HW Fs w0 {dJ st res.gZ with known:=more res.vcs st.known} bF w'∧
   u=res.val.val bF∧res.val.sc (res.gZ.grow st.aW)=true∧VC P al r bF L:=by
 obtain⟨rv,P3,Tj,re⟩:=res;simp only [gY.sc,ai]at jt;obtain⟨⟨kx,xD⟩,kr⟩:=jt;have LW: ∀b∈more P3 st.known,b.prop ρ:=fun b hb=>(aqC.1 hb).elim (fun h=>bY b (aqL.1 h).1) (hw.kn b)
 have AU:(more P3 st.known).all (BE.sc st.aW)=true:=by
  unfold more;rw [List.all_append,hw.ot,Bool.and_true];exact aqn.2 fun x hx=>aqn.1 xD x (aqL.1 hx).1
 cases re with
 | none=>
  refine⟨rv.val ρ,w,ρ,.inl hd,Env.Le.refl _,⟨hw.lens,hw.lx,hw.gj,AU,LW,hw.own,hw.same,hw.mw⟩,rfl,kx,hv⟩
 | new ck=>
  obtain⟨w',X5,gV,hr,sU,fy,hk,hp⟩:=hd;have hle:=Env.C9 ρ w.heap.size;have eV:=Env.Le.eH hw.lens hle;have eG:st.aW.le {st.aW with b:=st.aW.b+1}:=by constructor<;>simp
  refine⟨_,w',ρ.m_ w.heap.size,.inl hr,hle,⟨hw.lens.m_ _,cP eG hw.lx,?_,fF eG AU,fun b hb=>?_,?_,hw.same.trans sU,dF eG hw.mw⟩,rfl,kx,hv _⟩
  ·simp only [dJ,List.all_append,ai];refine⟨ju eG hw.gj,?_⟩;simp only [List.all_cons,List.all_nil,Bool.and_true];unfold Gp at gV;split at gV
   ·split at gV
    ·rename_i hb;subst hb;simp only [yZ.sc]at kr;simp only [Ck.sc,ai,aqB];exact⟨Nat.lt_succ_self _,SV.fb eG kr⟩
    ·cases gV
   ·split at gV
    ·rename_i hb;subst hb;simp only [yZ.sc,ai]at kr;simp only [Ck.sc,ai,aqB];exact⟨⟨⟨Nat.lt_succ_self _,SV.fb eG kr.1.1⟩,E.a_ eG kr.1.2⟩,jL eG kr.2⟩
    ·cases gV
   ·split at gV
    ·rename_i hb;subst hb;simp only [yZ.sc,ai]at kr;simp only [Ck.sc,ai,aqB];exact⟨⟨Nat.lt_succ_self _,SV.fb eG kr.1⟩,aqn.2 fun e he=>SV.fb eG (aqn.1 kr.2 e he)⟩
    ·cases gV
   ·split at gV
    ·rename_i hb;subst hb;simp only [yZ.sc,ai]at kr;simp only [Ck.sc,ai,aqB];exact⟨⟨Nat.lt_succ_self _,E.a_ eG kr.1⟩,E.a_ eG kr.2⟩
    ·cases gV
   ·split at gV
    ·rename_i hb;subst hb;simp only [Ck.sc,aqB];exact Nat.lt_succ_self _
    ·cases gV
   ·split at gV
    ·rename_i hb;subst hb;simp only [yZ.sc,aqB]at kr;simp only [Ck.sc,ai,aqB];exact⟨Nat.lt_succ_self _,Nat.lt_succ_of_lt kr⟩
    ·cases gV
   ·cases gV
  ·exact(BE.iE eV (aqn.1 AU b hb)).1 (LW b hb)
  ·simp only [dJ,List.map_append];refine bG.add (S':=fun k=>k=w.heap.size) ?_ _ (by omega) hk ?_ (fun k hk=>by omega)
   ·rw [←kK eV hw.gj];exact hw.own
   ·unfold Gp at gV;split at gV
    ·split at gV
     ·rename_i cs hb;subst hb;cases gV;simp only [yZ.sc]at kr;simp only [Ck.den,iP ρ _ hw.lens.b];have:SV.ao ρ cs=SV.ao (ρ.m_ w.heap.size) cs:=(SV.gi eV kr).2;rw [←this];exact hp
     ·cases gV
    ·split at gV
     ·rename_i kl ka va z has ay hb;subst hb;cases gV;simp only [yZ.sc,ai]at kr;have hc:ay.map (bL.cells ρ)=ay.map (bL.cells (ρ.m_ w.heap.size)):=List.map_congr_left fun k hk=>bL.yT eV (aqn.1 kr.2 k hk)
      simp only [Ck.den,iP ρ _ hw.lens.b];rw [←(SV.gi eV kr.1.1).2,←E.bN eV kr.1.2,←hc];exact hp
     ·cases gV
    ·split at gV
     ·rename_i kl ka va z es hb;subst hb;cases gV;simp only [yZ.sc,ai]at kr;have hr:(fun i=>SV.ao ρ (jU es z i))=fun i=>SV.ao (ρ.m_ w.heap.size) (jU es z i):=funext fun i=>(SV.gi eV (B6 kr.1 kr.2 i)).2
      rw [Ck.lh,iP ρ _ hw.lens.b,←(SV.gi eV kr.1).2,←hr];exact hp
     ·cases gV
    ·split at gV
     ·rename_i t e n a hb;subst hb;cases gV;simp only [yZ.sc,ai]at kr;simp only [Ck.den,iP ρ _ hw.lens.b];rw [←E.bN eV kr.1,←E.bN eV kr.2];exact hp
     ·cases gV
    ·split at gV
     ·rename_i hb;subst hb;cases gV;simp only [Ck.den,iP ρ _ hw.lens.b];exact hp
     ·cases gV
    ·split at gV
     ·rename_i b m hb;subst hb;cases gV;simp only [yZ.sc,aqB]at kr;simp only [Ck.den,iP ρ _ hw.lens.b];rw [←eV.b m kr];exact hp
     ·cases gV
    ·cases gV
 | set j ck=>
  obtain⟨w',hr,hW⟩:=hd;simp only at hr;have hr:run= .ok (.value (rv.val ρ)) w'∨(rv.val ρ=undef∧run= .ok .skip w'):=by
   rcases hr with hr | ⟨rfl,hr⟩
   ·exact .inl hr
   ·exact .inr ⟨rfl,hr⟩
  obtain⟨Q3,hj,uS⟩:=hW.old;have hjd:(st.hp.map (Ck.den ρ))[j]? =some (Q3.den ρ):=by rw [List.getElem?_map,hj];rfl
  refine⟨rv.val ρ,w',ρ,hr,Env.Le.refl _,⟨hw.lens,hw.lx,?_,AU,LW,?_,hw.same.trans hW.same,hw.mw⟩,rfl,kx,hv⟩
  ·refine aqn.2 fun q hq=>?_
   rcases aqT hq with hq | rfl
   ·exact aqn.1 hw.gj q hq
   ·exact kr
  ·simp only [dJ,List.map_set];exact bG.step hS j _ _ hjd uS (S j) (by rw [hW.size];exact Nat.le_refl _) (fun k _ hk=>hW.UL k hk) hW.now (fun k hk=> .inl hk)
 | app j ck=>
  obtain⟨t,s,n,ay,v,w',S',rfl,pY,hr,h1,⟨Q3,hj,uS⟩,sU,hk,hp,eJ⟩:=hd;simp only at pY;subst pY;have hle:=Env.kj ρ ⟨v,h1⟩;have eV:=Env.Le.eH hw.lens hle;have eG:st.aW.le {st.aW with v:=st.aW.v+1}:=by constructor<;>simp
  simp only [yZ.sc,ai]at kr;have hjd:(st.hp.map (Ck.den (ρ.ig ⟨v,h1⟩)))[j]? =some (Q3.den ρ):=by rw [←kK eV hw.gj,List.getElem?_map,hj];rfl
  refine⟨v,w',ρ.ig ⟨v,h1⟩,.inl hr,hle,⟨hw.lens.ig _,cP eG hw.lx,?_,fF eG AU,fun b hb=>?_,?_,hw.same.trans sU,dF eG hw.mw⟩,?_,kx,hv _⟩
  ·refine aqn.2 fun q hq=>?_
   rcases aqT hq with hq | rfl
   ·exact Ck.a_ eG (aqn.1 hw.gj q hq)
   ·simp only [dJ,Ck.sc,ai,aqB];exact⟨⟨Nat.lt_succ_self _,E.a_ eG kr.1⟩,jL eG kr.2⟩
  ·exact(BE.iE eV (aqn.1 AU b hb)).1 (LW b hb)
  ·simp only [dJ,List.map_set];refine bG.step (S:=S) ?_ j _ _ hjd uS S' sU.size hk ?_ eJ
   ·rw [←kK eV hw.gj];exact hS
   ·simp only [Ck.den,eA ρ _ hw.lens.v];rw [←E.bN eV kr.1,←tX eV kr.2];exact hp
  ·simp only [SV.val,eA ρ _ hw.lens.v]
 | own ck=>
  obtain⟨t,s,n,ay,v,w',S',rfl,pY,hr,h1,sU,hk,hp,eJ⟩:=hd;simp only at pY;subst pY;have hle:=Env.kj ρ ⟨v,h1⟩;have eV:=Env.Le.eH hw.lens hle;have eG:st.aW.le {st.aW with v:=st.aW.v+1}:=by constructor<;>simp
  simp only [yZ.sc,ai]at kr;refine⟨v,w',ρ.ig ⟨v,h1⟩,.inl hr,hle,⟨hw.lens.ig _,cP eG hw.lx,?_,fF eG AU,fun b hb=>?_,?_,hw.same.trans sU,dF eG hw.mw⟩,?_,kx,hv _⟩
  ·simp only [dJ,List.all_append,ai];refine⟨ju eG hw.gj,?_⟩;simp only [List.all_cons,List.all_nil,Ck.sc,Bool.and_true,ai,aqB];exact⟨⟨Nat.lt_succ_self _,E.a_ eG kr.1⟩,jL eG kr.2⟩
  ·exact(BE.iE eV (aqn.1 AU b hb)).1 (LW b hb)
  ·simp only [dJ,List.map_append];refine bG.add (S':=S') ?_ _ sU.size hk ?_ eJ
   ·rw [←kK eV hw.gj];exact hw.own
   ·simp only [Ck.den,eA ρ _ hw.lens.v];rw [←E.bN eV kr.1,←tX eV kr.2];exact hp
  ·simp only [SV.val,eA ρ _ hw.lens.v]
 | DM ck=>
  obtain⟨t,s,n,ay,v,w',S',rfl,pY,hr,h1,sU,hk,hp,eJ⟩:=hd;simp only at pY;subst pY;have hle:=Env.kj ρ ⟨v,h1⟩;have eV:=Env.Le.eH hw.lens hle;have eG:st.aW.le {st.aW with v:=st.aW.v+1}:=by constructor<;>simp
  simp only [yZ.sc,ai]at kr;refine⟨v,w',ρ.ig ⟨v,h1⟩,.inl hr,hle,⟨hw.lens.ig _,cP eG hw.lx,?_,fF eG AU,fun b hb=>?_,?_,hw.same.trans sU,dF eG hw.mw⟩,?_,kx,hv _⟩
  ·simp only [dJ,List.all_append,ai];refine⟨ju eG hw.gj,?_⟩;simp only [List.all_cons,List.all_nil,Ck.sc,Bool.and_true,ai,aqB];exact⟨⟨Nat.lt_succ_self _,E.a_ eG kr.1⟩,jL eG kr.2⟩
  ·exact(BE.iE eV (aqn.1 AU b hb)).1 (LW b hb)
  ·simp only [dJ,List.map_append];refine bG.add (S':=S') ?_ _ sU.size hk ?_ eJ
   ·rw [←kK eV hw.gj];exact hw.own
   ·simp only [Ck.den,eA ρ _ hw.lens.v];rw [←E.bN eV kr.1,←tX eV kr.2];exact hp
  ·simp only [SV.val,eA ρ _ hw.lens.v]
theorem lX{g:Option BE}{st:St}{o:Oper}{res:gY}(h:pj C g st o=some res):
  dR C.T (Bj g st.known st.fr) st.hp st.aW.b st.aW.v o=some res∧res.sc st.aW=true:=by
 unfold pj at h;split at h
 ·rename_i r hr;split at h
  ·rename_i hs;cases h;exact⟨hr,hs⟩
  ·cases h
 ·cases h
theorem yY{g:Option BE}{st:St}{o:Oper}{res:gY}(h:D0 C g st o=some res):
  (g=some (.lit false)∧res={val:= .undef})∨pj C g st o=some res:=by
 unfold D0 at h;split at h
 ·cases h;exact .inl ⟨rfl,rfl⟩
 ·exact .inr h
theorem vz{T:List TI}{lk:Nat→Option SV}{hp:List Ck}{nb nv:Nat}{o:Oper}{res:gY}(h:dR T lk hp nb nv o=some res): ∀c,o.op≠ .defer c:=by
 intro c hc;unfold dR at h;rw [hc]at h;cases h
theorem nB{ro:Option Nat}{o:Oper}{K:Act→World→Prop}{Q:Exit→Act→World→Prop}{u:Value}{w':World}(gV: ∀c,o.op≠ .defer c)
  (hr:(execOp a.eval o).run P w= .ok (.value u) w'∨(u=undef∧(execOp a.eval o).run P w= .ok .skip w')) (hk:K (a.put o.dst u) w'):o.wpIn (FW ro) 0 P a w K Q:=by
 refine⟨fun f _=>trivial,?_⟩;rw [Oper.semAt_eq _ _ _ gV];rcases hr with hr | ⟨rfl,hr⟩
 ·rw [hr];exact hk
 ·rw [hr];exact hk
theorem AV{ro:Option Nat}{o:Oper}{K:Act→World→Prop}{Q:Exit→Act→World→Prop}(h:({o with guard:=none}:Oper).wpIn (FW ro) 0 P a w K Q):o.wpIn (FW ro) 0 P a w K Q:=h
end
end Go.RX
