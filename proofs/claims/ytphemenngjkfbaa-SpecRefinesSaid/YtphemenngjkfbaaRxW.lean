/- Executor. -/
import Derived.Test.YtphemenngjkfbaaRxV
open Bool renaming and_eq_true → ai
open List renaming all_eq_true → agv, getElem?_append_left → agC, getElem?_eq_some_iff → agx, map_congr_left → ag4, mem_filter → agP, mem_or_eq_of_mem_set → ag2
open Nat renaming blt_eq → agM
namespace Go.RX
def FW(ro:Option Nat):Fence:={Fence.wide with round:=ro}
section
variable {P:Program} {C:Ctx} {aq:Value→List HP→Prop} {Fs:List HP} {w0:World} {ρ:Env} {a:Act} {w:World}
def Zp(e:Ch)(r:F):F:=
 match e with
 | .new _=> .yL r
 | .app .. => .zR r
 | .own .. => .zR r
 | .F1 .. => .zR r
 | _=>r
theorem AD{st:St}(S:Nat→Nat→Prop)(hS:Sep (st.hp.map (Ck.den ρ)++Fs) S w)(rd:List Nat):Reads st.hp ρ w S rd:=by
 intro j _ ck hj;refine(hS.at_ j (ck.den ρ) ?_).1;rw [agC (by simpa using (agx.1 hj).1),List.getElem?_map,hj];rfl
theorem CM(st:St)(e:Ch):(dA st e).fr=st.fr∧(dA st e).nt=st.nt∧(dA st e).fn=st.fn∧(dA st e).known=st.known∧(dA st e).aS=e.grow st.aS:=by
 cases e<;>exact⟨rfl,rfl,rfl,rfl,rfl⟩
theorem Q0{st:St}{res:iC}{S:Nat→Nat→Prop}{run:Result Next}{r:F}{L:Nat→LC}(hw:HW Fs w0 st ρ w)(hS:Sep (st.hp.map (Ck.den ρ)++Fs) S w)
  (hd:Did P ρ w st.hp S st.aS.b st.aS.v run res) (jx:res.sc st.aS=true) (cu: ∀b∈res.vcs,b.prop ρ) (hv:VC P aq (Zp res.ij r) ρ L):
  ∃u w' bI,(run= .ok (.value u) w'∨(u=undef∧run= .ok .skip w'))∧Env.Le ρ bI∧HW Fs w0 {dA st res.ij with known:=more res.vcs st.known} bI w'∧
   u=res.val.val bI∧res.val.sc (res.ij.grow st.aS)=true∧VC P aq r bI L:=by
 obtain⟨rv,RD,UE,re⟩:=res;simp only [iC.sc,ai]at jx;obtain⟨⟨iX,vw⟩,lA⟩:=jx;have Gd: ∀b∈more RD st.known,b.prop ρ:=fun b hb=>(List.mem_append.1 hb).elim (fun h=>cu b (agP.1 h).1) (hw.kn b)
 have CN:(more RD st.known).all (BE.sc st.aS)=true:=by
  unfold more;rw [List.all_append,hw.oO,Bool.and_true];exact agv.2 fun x hx=>agv.1 vw x (agP.1 hx).1
 cases re with
 | none=>
  refine⟨rv.val ρ,w,ρ,.inl hd,Env.Le.refl _,⟨hw.lens,hw.lX,hw.gF,CN,Gd,hw.own,hw.same,hw.mP⟩,rfl,iX,hv⟩
 | new ck=>
  obtain⟨w',LW,gE,hr,yj,fx,hk,hp⟩:=hd;have hle:=Env.Fq ρ w.heap.size;have eV:=Env.Le.agree hw.lens hle;have eL:st.aS.le {st.aS with b:=st.aS.b+1}:=by constructor<;>simp
  refine⟨_,w',ρ.nG w.heap.size,.inl hr,hle,⟨hw.lens.nG _,cO eL hw.lX,?_,fk eL CN,fun b hb=>?_,?_,hw.same.trans yj,dz eL hw.mP⟩,rfl,iX,hv _⟩
  ·simp only [dA,List.all_append,ai];refine⟨i_ eL hw.gF,?_⟩;simp only [List.all_cons,List.all_nil,Bool.and_true];unfold Iq at gE;split at gE
   ·split at gE
    ·rename_i hb;subst hb;simp only [Ch.sc]at lA;simp only [Ck.sc,ai,agM];exact⟨Nat.lt_succ_self _,SV.fj eL lA⟩
    ·cases gE
   ·split at gE
    ·rename_i hb;subst hb;simp only [Ch.sc,ai]at lA;simp only [Ck.sc,ai,agM];exact⟨⟨⟨Nat.lt_succ_self _,SV.fj eL lA.1.1⟩,E.bu eL lA.1.2⟩,jA eL lA.2⟩
    ·cases gE
   ·split at gE
    ·rename_i hb;subst hb;simp only [Ch.sc,ai]at lA;simp only [Ck.sc,ai,agM];exact⟨⟨Nat.lt_succ_self _,SV.fj eL lA.1⟩,agv.2 fun e he=>SV.fj eL (agv.1 lA.2 e he)⟩
    ·cases gE
   ·split at gE
    ·rename_i hb;subst hb;simp only [Ch.sc,ai]at lA;simp only [Ck.sc,ai,agM];exact⟨⟨Nat.lt_succ_self _,E.bu eL lA.1⟩,E.bu eL lA.2⟩
    ·cases gE
   ·split at gE
    ·rename_i hb;subst hb;simp only [Ck.sc,agM];exact Nat.lt_succ_self _
    ·cases gE
   ·cases gE
  ·exact(BE.gT eV (agv.1 CN b hb)).1 (Gd b hb)
  ·simp only [dA,List.map_append];refine aU.add (S':=fun k=>k=w.heap.size) ?_ _ (by omega) hk ?_ (fun k hk=>by omega)
   ·rw [←kX eV hw.gF];exact hw.own
   ·unfold Iq at gE;split at gE
    ·split at gE
     ·rename_i cs hb;subst hb;cases gE;simp only [Ch.sc]at lA;simp only [Ck.den,ju ρ _ hw.lens.b];have:SV.ar ρ cs=SV.ar (ρ.nG w.heap.size) cs:=(SV.gg eV lA).2;rw [←this];exact hp
     ·cases gE
    ·split at gE
     ·rename_i kl ka va z has aA hb;subst hb;cases gE;simp only [Ch.sc,ai]at lA;have hc:aA.map (cb.cells ρ)=aA.map (cb.cells (ρ.nG w.heap.size)):=ag4 fun k hk=>cb.Au eV (agv.1 lA.2 k hk)
      simp only [Ck.den,ju ρ _ hw.lens.b];rw [←(SV.gg eV lA.1.1).2,←E.b_ eV lA.1.2,←hc];exact hp
     ·cases gE
    ·split at gE
     ·rename_i kl ka va z es hb;subst hb;cases gE;simp only [Ch.sc,ai]at lA;have hr:(fun i=>SV.ar ρ (oz es z i))=fun i=>SV.ar (ρ.nG w.heap.size) (oz es z i):=funext fun i=>(SV.gg eV (Ez lA.1 lA.2 i)).2
      rw [Ck.lK,ju ρ _ hw.lens.b,←(SV.gg eV lA.1).2,←hr];exact hp
     ·cases gE
    ·split at gE
     ·rename_i t e n a hb;subst hb;cases gE;simp only [Ch.sc,ai]at lA;simp only [Ck.den,ju ρ _ hw.lens.b];rw [←E.b_ eV lA.1,←E.b_ eV lA.2];exact hp
     ·cases gE
    ·split at gE
     ·rename_i hb;subst hb;cases gE;simp only [Ck.den,ju ρ _ hw.lens.b];exact hp
     ·cases gE
    ·cases gE
 | set j ck=>
  obtain⟨w',hr,hW⟩:=hd;simp only at hr;have hr:run= .ok (.value (rv.val ρ)) w'∨(rv.val ρ=undef∧run= .ok .skip w'):=by
   rcases hr with hr | ⟨rfl,hr⟩
   ·exact .inl hr
   ·exact .inr ⟨rfl,hr⟩
  obtain⟨RP,hj,y_⟩:=hW.old;have hjd:(st.hp.map (Ck.den ρ))[j]? =some (RP.den ρ):=by rw [List.getElem?_map,hj];rfl
  refine⟨rv.val ρ,w',ρ,hr,Env.Le.refl _,⟨hw.lens,hw.lX,?_,CN,Gd,?_,hw.same.trans hW.same,hw.mP⟩,rfl,iX,hv⟩
  ·refine agv.2 fun q hq=>?_
   rcases ag2 hq with hq | rfl
   ·exact agv.1 hw.gF q hq
   ·exact lA
  ·simp only [dA,List.map_set];exact aU.step hS j _ _ hjd y_ (S j) (by rw [hW.size];exact Nat.le_refl _) (fun k _ hk=>hW.keep k hk) hW.now (fun k hk=> .inl hk)
 | app j ck=>
  obtain⟨t,s,n,aA,v,w',S',rfl,hval,hr,h1,⟨RP,hj,y_⟩,yj,hk,hp,eu⟩:=hd;simp only at hval;subst hval;have hle:=Env.kb ρ ⟨v,h1⟩;have eV:=Env.Le.agree hw.lens hle;have eL:st.aS.le {st.aS with v:=st.aS.v+1}:=by constructor<;>simp
  simp only [Ch.sc,ai]at lA;have hjd:(st.hp.map (Ck.den (ρ.gI ⟨v,h1⟩)))[j]? =some (RP.den ρ):=by rw [←kX eV hw.gF,List.getElem?_map,hj];rfl
  refine⟨v,w',ρ.gI ⟨v,h1⟩,.inl hr,hle,⟨hw.lens.gI _,cO eL hw.lX,?_,fk eL CN,fun b hb=>?_,?_,hw.same.trans yj,dz eL hw.mP⟩,?_,iX,hv _⟩
  ·refine agv.2 fun q hq=>?_
   rcases ag2 hq with hq | rfl
   ·exact Ck.bu eL (agv.1 hw.gF q hq)
   ·simp only [dA,Ck.sc,ai,agM];exact⟨⟨Nat.lt_succ_self _,E.bu eL lA.1⟩,jA eL lA.2⟩
  ·exact(BE.gT eV (agv.1 CN b hb)).1 (Gd b hb)
  ·simp only [dA,List.map_set];refine aU.step (S:=S) ?_ j _ _ hjd y_ S' yj.size hk ?_ eu
   ·rw [←kX eV hw.gF];exact hS
   ·simp only [Ck.den,eA ρ _ hw.lens.v];rw [←E.b_ eV lA.1,←vi eV lA.2];exact hp
  ·simp only [SV.val,eA ρ _ hw.lens.v]
 | own ck=>
  obtain⟨t,s,n,aA,v,w',S',rfl,hval,hr,h1,yj,hk,hp,eu⟩:=hd;simp only at hval;subst hval;have hle:=Env.kb ρ ⟨v,h1⟩;have eV:=Env.Le.agree hw.lens hle;have eL:st.aS.le {st.aS with v:=st.aS.v+1}:=by constructor<;>simp
  simp only [Ch.sc,ai]at lA;refine⟨v,w',ρ.gI ⟨v,h1⟩,.inl hr,hle,⟨hw.lens.gI _,cO eL hw.lX,?_,fk eL CN,fun b hb=>?_,?_,hw.same.trans yj,dz eL hw.mP⟩,?_,iX,hv _⟩
  ·simp only [dA,List.all_append,ai];refine⟨i_ eL hw.gF,?_⟩;simp only [List.all_cons,List.all_nil,Ck.sc,Bool.and_true,ai,agM];exact⟨⟨Nat.lt_succ_self _,E.bu eL lA.1⟩,jA eL lA.2⟩
  ·exact(BE.gT eV (agv.1 CN b hb)).1 (Gd b hb)
  ·simp only [dA,List.map_append];refine aU.add (S':=S') ?_ _ yj.size hk ?_ eu
   ·rw [←kX eV hw.gF];exact hw.own
   ·simp only [Ck.den,eA ρ _ hw.lens.v];rw [←E.b_ eV lA.1,←vi eV lA.2];exact hp
  ·simp only [SV.val,eA ρ _ hw.lens.v]
 | F1 ck=>
  obtain⟨t,s,n,aA,v,w',S',rfl,hval,hr,h1,yj,hk,hp,eu⟩:=hd;simp only at hval;subst hval;have hle:=Env.kb ρ ⟨v,h1⟩;have eV:=Env.Le.agree hw.lens hle;have eL:st.aS.le {st.aS with v:=st.aS.v+1}:=by constructor<;>simp
  simp only [Ch.sc,ai]at lA;refine⟨v,w',ρ.gI ⟨v,h1⟩,.inl hr,hle,⟨hw.lens.gI _,cO eL hw.lX,?_,fk eL CN,fun b hb=>?_,?_,hw.same.trans yj,dz eL hw.mP⟩,?_,iX,hv _⟩
  ·simp only [dA,List.all_append,ai];refine⟨i_ eL hw.gF,?_⟩;simp only [List.all_cons,List.all_nil,Ck.sc,Bool.and_true,ai,agM];exact⟨⟨Nat.lt_succ_self _,E.bu eL lA.1⟩,jA eL lA.2⟩
  ·exact(BE.gT eV (agv.1 CN b hb)).1 (Gd b hb)
  ·simp only [dA,List.map_append];refine aU.add (S':=S') ?_ _ yj.size hk ?_ eu
   ·rw [←kX eV hw.gF];exact hw.own
   ·simp only [Ck.den,eA ρ _ hw.lens.v];rw [←E.b_ eV lA.1,←vi eV lA.2];exact hp
  ·simp only [SV.val,eA ρ _ hw.lens.v]
theorem mI{g:Option BE}{st:St}{o:Oper}{res:iC}(h:pZ C g st o=some res):
  dS C.T (Dx g st.known st.fr) st.hp st.aS.b st.aS.v o=some res∧res.sc st.aS=true:=by
 unfold pZ at h;split at h
 ·rename_i r hr;split at h
  ·rename_i hs;cases h;exact⟨hr,hs⟩
  ·cases h
 ·cases h
theorem AA{g:Option BE}{st:St}{o:Oper}{res:iC}(h:Gg C g st o=some res):
  (g=some (.lit false)∧res={val:= .undef})∨pZ C g st o=some res:=by
 unfold Gg at h;split at h
 ·cases h;exact .inl ⟨rfl,rfl⟩
 ·exact .inr h
theorem w5{T:List TI}{lk:Nat→Option SV}{hp:List Ck}{nb nv:Nat}{o:Oper}{res:iC}(h:dS T lk hp nb nv o=some res): ∀c,o.op≠ .defer c:=by
 intro c hc;unfold dS at h;rw [hc]at h;cases h
theorem nU{ro:Option Nat}{o:Oper}{K:Act→World→Prop}{Q:Exit→Act→World→Prop}{u:Value}{w':World}(gE: ∀c,o.op≠ .defer c)
  (hr:(execOp a.eval o).run P w= .ok (.value u) w'∨(u=undef∧(execOp a.eval o).run P w= .ok .skip w')) (hk:K (a.put o.dst u) w'):o.wpIn (FW ro) 0 P a w K Q:=by
 refine⟨fun f _=>trivial,?_⟩;rw [Oper.semAt_eq _ _ _ gE];rcases hr with hr | ⟨rfl,hr⟩
 ·rw [hr];exact hk
 ·rw [hr];exact hk
theorem CO{ro:Option Nat}{o:Oper}{K:Act→World→Prop}{Q:Exit→Act→World→Prop}(h:({o with guard:=none}:Oper).wpIn (FW ro) 0 P a w K Q):o.wpIn (FW ro) 0 P a w K Q:=h
end
end Go.RX
