/- Executor. -/
import Derived.Test.YtllcdnkfbeokhaaGreatRxV
open Bool renaming and_eq_true → ai
open List renaming all_eq_true → auo, getElem?_append_left → auu, getElem?_eq_some_iff → aup, mem_append → auE, mem_filter → auR, mem_or_eq_of_mem_set → au1
open Nat renaming blt_eq → auF
namespace Go.RX
def FW(ro:Option Nat):Fence:={Fence.wide with round:=ro}
section
variable {P:Program} {C:Ctx} {al:Value→List HP→Prop} {Fs:List HP} {w0:World} {ρ:Env} {a:Act} {w:World}
def afR(e:Ar)(r:F):F:=
 match e with
 | .new _=> .DB r
 | .app .. => .wN r
 | .own .. => .wN r
 | .FZ .. => .wN r
 | _=>r
theorem Au{st:St}(S:Nat→Nat→Prop)(hS:Sep (st.hp.map (Ck.den ρ)++Fs) S w)(rd:List Nat):Reads st.hp ρ w S rd:=by
 intro j _ ck hj;refine(hS.at_ j (ck.den ρ) ?_).1;rw [auu (by simpa using (aup.1 hj).1),List.getElem?_map,hj];rfl
theorem CH(st:St)(e:Ar):(dY st e).fr=st.fr∧(dY st e).nt=st.nt∧(dY st e).fn=st.fn∧(dY st e).known=st.known∧(dY st e).a_=e.grow st.a_:=by
 cases e<;>exact⟨rfl,rfl,rfl,rfl,rfl⟩
theorem TA{st:St}{res:iC}{S:Nat→Nat→Prop}{run:Result Next}{r:F}{L:Nat→LC}(hw:HW Fs w0 st ρ w)(hS:Sep (st.hp.map (Ck.den ρ)++Fs) S w)
  (hd:Did P ρ w st.hp S st.a_.b st.a_.v run res) (jM:res.sc st.a_=true) (cd: ∀b∈res.vcs,b.prop ρ) (hv:VC P al (afR res.iD r) ρ L):
  ∃u w' bJ,(run= .ok (.value u) w'∨(u=undef∧run= .ok .skip w'))∧Env.Le ρ bJ∧HW Fs w0 {dY st res.iD with known:=more res.vcs st.known} bJ w'∧
   u=res.val.val bJ∧res.val.sc (res.iD.grow st.a_)=true∧VC P al r bJ L:=by
 obtain⟨rv,Tt,Xn,re⟩:=res;simp only [iC.sc,ai]at jM;obtain⟨⟨kZ,yY⟩,kW⟩:=jM;have Po: ∀b∈more Tt st.known,b.prop ρ:=fun b hb=>(auE.1 hb).elim (fun h=>cd b (auR.1 h).1) (hw.kn b)
 have CI:(more Tt st.known).all (BE.sc st.a_)=true:=by
  unfold more;rw [List.all_append,hw.o9,Bool.and_true];exact auo.2 fun x hx=>auo.1 yY x (auR.1 hx).1
 cases re with
 | none=>
  refine⟨rv.val ρ,w,ρ,.inl hd,Env.Le.refl _,⟨hw.lens,hw.mj,hw.gP,CI,Po,hw.own,hw.same,hw.ng⟩,rfl,kZ,hv⟩
 | new ck=>
  obtain⟨w',hpr,iy,hr,uu,gx,hk,hp⟩:=hd;have hle:=Env.Fb ρ w.heap.size;have fA:=Env.Le.e9 hw.lens hle;have eV:st.a_.le {st.a_ with b:=st.a_.b+1}:=by constructor<;>simp
  refine⟨_,w',ρ.nV w.heap.size,.inl hr,hle,⟨hw.lens.nV _,de eV hw.mj,?_,gg eV CI,fun b hb=>?_,?_,hw.same.trans uu,dU eV hw.ng⟩,rfl,kZ,hv _⟩
  ·simp only [dY,List.all_append,ai];refine⟨jN eV hw.gP,?_⟩;simp only [List.all_cons,List.all_nil,Bool.and_true];unfold IL at iy;split at iy
   ·split at iy
    ·rename_i hb;subst hb;simp only [Ar.sc]at kW;simp only [Ck.sc,ai,auF];exact⟨Nat.lt_succ_self _,SV.fH eV kW⟩
    ·cases iy
   ·split at iy
    ·rename_i hb;subst hb;simp only [Ar.sc,ai]at kW;simp only [Ck.sc,ai,auF];exact⟨⟨⟨Nat.lt_succ_self _,SV.fH eV kW.1.1⟩,E.bg eV kW.1.2⟩,ku eV kW.2⟩
    ·cases iy
   ·split at iy
    ·rename_i hb;subst hb;simp only [Ar.sc,ai]at kW;simp only [Ck.sc,ai,auF];exact⟨⟨Nat.lt_succ_self _,SV.fH eV kW.1⟩,auo.2 fun e he=>SV.fH eV (auo.1 kW.2 e he)⟩
    ·cases iy
   ·split at iy
    ·rename_i hb;subst hb;simp only [Ar.sc,ai]at kW;simp only [Ck.sc,ai,auF];exact⟨⟨Nat.lt_succ_self _,E.bg eV kW.1⟩,E.bg eV kW.2⟩
    ·cases iy
   ·split at iy
    ·rename_i hb;subst hb;simp only [Ck.sc,auF];exact Nat.lt_succ_self _
    ·cases iy
   ·split at iy
    ·rename_i hb;subst hb;simp only [Ar.sc,auF]at kW;simp only [Ck.sc,ai,auF];exact⟨Nat.lt_succ_self _,Nat.lt_succ_of_lt kW⟩
    ·cases iy
   ·cases iy
  ·exact(BE.i_ fA (auo.1 CI b hb)).1 (Po b hb)
  ·simp only [dY,List.map_append];refine bz.add (S':=fun k=>k=w.heap.size) ?_ _ (by omega) hk ?_ (fun k hk=>by omega)
   ·rw [←lF fA hw.gP];exact hw.own
   ·unfold IL at iy;split at iy
    ·split at iy
     ·rename_i cs hb;subst hb;cases iy;simp only [Ar.sc]at kW;simp only [Ck.den,jo ρ _ hw.lens.b];have:SV.ao ρ cs=SV.ao (ρ.nV w.heap.size) cs:=(SV.gO fA kW).2;rw [←this];exact hp
     ·cases iy
    ·split at iy
     ·rename_i kl ka va z has aA hb;subst hb;cases iy;simp only [Ar.sc,ai]at kW;have hc:aA.map (bP.cells ρ)=aA.map (bP.cells (ρ.nV w.heap.size)):=List.map_congr_left fun k hk=>bP.Al fA (auo.1 kW.2 k hk)
      simp only [Ck.den,jo ρ _ hw.lens.b];rw [←(SV.gO fA kW.1.1).2,←E.bU fA kW.1.2,←hc];exact hp
     ·cases iy
    ·split at iy
     ·rename_i kl ka va z es hb;subst hb;cases iy;simp only [Ar.sc,ai]at kW;have hr:(fun i=>SV.ao ρ (nX es z i))=fun i=>SV.ao (ρ.nV w.heap.size) (nX es z i):=funext fun i=>(SV.gO fA (DS kW.1 kW.2 i)).2
      rw [Ck.ma,jo ρ _ hw.lens.b,←(SV.gO fA kW.1).2,←hr];exact hp
     ·cases iy
    ·split at iy
     ·rename_i t e n a hb;subst hb;cases iy;simp only [Ar.sc,ai]at kW;simp only [Ck.den,jo ρ _ hw.lens.b];rw [←E.bU fA kW.1,←E.bU fA kW.2];exact hp
     ·cases iy
    ·split at iy
     ·rename_i hb;subst hb;cases iy;simp only [Ck.den,jo ρ _ hw.lens.b];exact hp
     ·cases iy
    ·split at iy
     ·rename_i b m hb;subst hb;cases iy;simp only [Ar.sc,auF]at kW;simp only [Ck.den,jo ρ _ hw.lens.b];rw [←fA.b m kW];exact hp
     ·cases iy
    ·cases iy
 | set j ck=>
  obtain⟨w',hr,hW⟩:=hd;simp only at hr;have hr:run= .ok (.value (rv.val ρ)) w'∨(rv.val ρ=undef∧run= .ok .skip w'):=by
   rcases hr with hr | ⟨rfl,hr⟩
   ·exact .inl hr
   ·exact .inr ⟨rfl,hr⟩
  obtain⟨Ux,hj,wF⟩:=hW.old;have hjd:(st.hp.map (Ck.den ρ))[j]? =some (Ux.den ρ):=by rw [List.getElem?_map,hj];rfl
  refine⟨rv.val ρ,w',ρ,hr,Env.Le.refl _,⟨hw.lens,hw.mj,?_,CI,Po,?_,hw.same.trans hW.same,hw.ng⟩,rfl,kZ,hv⟩
  ·refine auo.2 fun q hq=>?_
   rcases au1 hq with hq | rfl
   ·exact auo.1 hw.gP q hq
   ·exact kW
  ·simp only [dY,List.map_set];exact bz.step hS j _ _ hjd wF (S j) (by rw [hW.size];exact Nat.le_refl _) (fun k _ hk=>hW.YB k hk) hW.now (fun k hk=> .inl hk)
 | app j ck=>
  obtain⟨t,s,n,aA,v,w',S',rfl,nP,hr,h1,⟨Ux,hj,wF⟩,uu,hk,hp,fi⟩:=hd;simp only at nP;subst nP;have hle:=Env.kS ρ ⟨v,h1⟩;have fA:=Env.Le.e9 hw.lens hle;have eV:st.a_.le {st.a_ with v:=st.a_.v+1}:=by constructor<;>simp
  simp only [Ar.sc,ai]at kW;have hjd:(st.hp.map (Ck.den (ρ.iQ ⟨v,h1⟩)))[j]? =some (Ux.den ρ):=by rw [←lF fA hw.gP,List.getElem?_map,hj];rfl
  refine⟨v,w',ρ.iQ ⟨v,h1⟩,.inl hr,hle,⟨hw.lens.iQ _,de eV hw.mj,?_,gg eV CI,fun b hb=>?_,?_,hw.same.trans uu,dU eV hw.ng⟩,?_,kZ,hv _⟩
  ·refine auo.2 fun q hq=>?_
   rcases au1 hq with hq | rfl
   ·exact Ck.bg eV (auo.1 hw.gP q hq)
   ·simp only [dY,Ck.sc,ai,auF];exact⟨⟨Nat.lt_succ_self _,E.bg eV kW.1⟩,ku eV kW.2⟩
  ·exact(BE.i_ fA (auo.1 CI b hb)).1 (Po b hb)
  ·simp only [dY,List.map_set];refine bz.step (S:=S) ?_ j _ _ hjd wF S' uu.size hk ?_ fi
   ·rw [←lF fA hw.gP];exact hS
   ·simp only [Ck.den,eR ρ _ hw.lens.v];rw [←E.bU fA kW.1,←vA fA kW.2];exact hp
  ·simp only [SV.val,eR ρ _ hw.lens.v]
 | own ck=>
  obtain⟨t,s,n,aA,v,w',S',rfl,nP,hr,h1,uu,hk,hp,fi⟩:=hd;simp only at nP;subst nP;have hle:=Env.kS ρ ⟨v,h1⟩;have fA:=Env.Le.e9 hw.lens hle;have eV:st.a_.le {st.a_ with v:=st.a_.v+1}:=by constructor<;>simp
  simp only [Ar.sc,ai]at kW;refine⟨v,w',ρ.iQ ⟨v,h1⟩,.inl hr,hle,⟨hw.lens.iQ _,de eV hw.mj,?_,gg eV CI,fun b hb=>?_,?_,hw.same.trans uu,dU eV hw.ng⟩,?_,kZ,hv _⟩
  ·simp only [dY,List.all_append,ai];refine⟨jN eV hw.gP,?_⟩;simp only [List.all_cons,List.all_nil,Ck.sc,Bool.and_true,ai,auF];exact⟨⟨Nat.lt_succ_self _,E.bg eV kW.1⟩,ku eV kW.2⟩
  ·exact(BE.i_ fA (auo.1 CI b hb)).1 (Po b hb)
  ·simp only [dY,List.map_append];refine bz.add (S':=S') ?_ _ uu.size hk ?_ fi
   ·rw [←lF fA hw.gP];exact hw.own
   ·simp only [Ck.den,eR ρ _ hw.lens.v];rw [←E.bU fA kW.1,←vA fA kW.2];exact hp
  ·simp only [SV.val,eR ρ _ hw.lens.v]
 | FZ ck=>
  obtain⟨t,s,n,aA,v,w',S',rfl,nP,hr,h1,uu,hk,hp,fi⟩:=hd;simp only at nP;subst nP;have hle:=Env.kS ρ ⟨v,h1⟩;have fA:=Env.Le.e9 hw.lens hle;have eV:st.a_.le {st.a_ with v:=st.a_.v+1}:=by constructor<;>simp
  simp only [Ar.sc,ai]at kW;refine⟨v,w',ρ.iQ ⟨v,h1⟩,.inl hr,hle,⟨hw.lens.iQ _,de eV hw.mj,?_,gg eV CI,fun b hb=>?_,?_,hw.same.trans uu,dU eV hw.ng⟩,?_,kZ,hv _⟩
  ·simp only [dY,List.all_append,ai];refine⟨jN eV hw.gP,?_⟩;simp only [List.all_cons,List.all_nil,Ck.sc,Bool.and_true,ai,auF];exact⟨⟨Nat.lt_succ_self _,E.bg eV kW.1⟩,ku eV kW.2⟩
  ·exact(BE.i_ fA (auo.1 CI b hb)).1 (Po b hb)
  ·simp only [dY,List.map_append];refine bz.add (S':=S') ?_ _ uu.size hk ?_ fi
   ·rw [←lF fA hw.gP];exact hw.own
   ·simp only [Ck.den,eR ρ _ hw.lens.v];rw [←E.bU fA kW.1,←vA fA kW.2];exact hp
  ·simp only [SV.val,eR ρ _ hw.lens.v]
theorem mQ{g:Option BE}{st:St}{o:Oper}{res:iC}(h:qj C g st o=some res):
  eg C.T (CZ g st.known st.fr) st.hp st.a_.b st.a_.v o=some res∧res.sc st.a_=true:=by
 unfold qj at h;split at h
 ·rename_i r hr;split at h
  ·rename_i hs;cases h;exact⟨hr,hs⟩
  ·cases h
 ·cases h
theorem Aq{g:Option BE}{st:St}{o:Oper}{res:iC}(h:F7 C g st o=some res):
  (g=some (.lit false)∧res={val:= .undef})∨qj C g st o=some res:=by
 unfold F7 at h;split at h
 ·cases h;exact .inl ⟨rfl,rfl⟩
 ·exact .inr h
theorem xe{T:List TI}{lk:Nat→Option SV}{hp:List Ck}{nb nv:Nat}{o:Oper}{res:iC}(h:eg T lk hp nb nv o=some res): ∀c,o.op≠ .defer c:=by
 intro c hc;unfold eg at h;rw [hc]at h;cases h
theorem ot{ro:Option Nat}{o:Oper}{K:Act→World→Prop}{Q:Exit→Act→World→Prop}{u:Value}{w':World}(iy: ∀c,o.op≠ .defer c)
  (hr:(execOp a.eval o).run P w= .ok (.value u) w'∨(u=undef∧(execOp a.eval o).run P w= .ok .skip w')) (hk:K (a.put o.dst u) w'):o.wpIn (FW ro) 0 P a w K Q:=by
 refine⟨fun f _=>trivial,?_⟩;rw [Oper.semAt_eq _ _ _ iy];rcases hr with hr | ⟨rfl,hr⟩
 ·rw [hr];exact hk
 ·rw [hr];exact hk
theorem CJ{ro:Option Nat}{o:Oper}{K:Act→World→Prop}{Q:Exit→Act→World→Prop}(h:({o with guard:=none}:Oper).wpIn (FW ro) 0 P a w K Q):o.wpIn (FW ro) 0 P a w K Q:=h
end
end Go.RX
