/- Executor. -/
import Derived.Test.YtllcdnkfbeokhaaGreatRxV
open Bool renaming and_eq_true -> ai
open List renaming all_eq_true -> axS, getElem?_append_left -> axX, getElem?_eq_some_iff -> axT, mem_append -> ax_, mem_filter -> ayi, mem_or_eq_of_mem_set -> ayy
open Nat renaming blt_eq -> ayb
namespace Go.RX
def FW(ro:Option Nat):Fence:={Fence.wide with round:=ro}
section
variable {P:Program} {C:Ctx} {al:Value->List HP->Prop} {Fs:List HP} {w0:World} {ρ:Env} {a:Act} {w:World}
def aiD(e:Bl)(r:F):F:=
 match e with
 | .new _=> .Eh r
 | .app .. => .xw r
 | .own .. => .xw r
 | .Gr .. => .xw r
 | _=>r
theorem Bm{st:St}(S:Nat->Nat->Prop)(hS:Sep (st.hp.map (Ck.den ρ)++Fs) S w)(rd:List Nat):Reads st.hp ρ w S rd:=by
 intro j _ ck hj;refine(hS.at_ j (ck.den ρ) ?_).1;rw[axX (by simpa using (axT.1 hj).1),List.getElem?_map,hj];rfl
theorem Dk(st:St)(e:Bl):(eg st e).fr=st.fr/\(eg st e).nt=st.nt/\(eg st e).fn=st.fn/\(eg st e).known=st.known/\(eg st e).aY=e.grow st.aY:=by
 cases e<;>exact⟨rfl,rfl,rfl,rfl,rfl⟩
theorem U3{st:St}{res:jf}{S:Nat->Nat->Prop}{run:Result Next}{r:F}{L:Nat->LC}(hw:HW Fs w0 st ρ w)(hS:Sep (st.hp.map (Ck.den ρ)++Fs) S w)
  (hd:Did P ρ w st.hp S st.aY.b st.aY.v run res) (kS:res.sc st.aY=true) (cA: ∀b∈res.vcs,b.prop ρ) (hv:VC P al (aiD res.jE r) ρ L):
  ∃u w' bG,(run= .ok (.value u) w'\/(u=undef/\run= .ok .skip w'))/\Env.Le ρ bG/\HW Fs w0 {eg st res.jE with known:=more res.vcs st.known} bG w'/\
   u=res.val.val bG/\res.val.sc (res.jE.grow st.aY)=true/\VC P al r bG L:=by
 obtain⟨rv,UU,Yv,re⟩:=res;simp only[jf.sc,ai]at kS;obtain⟨⟨lZ,zO⟩,lT⟩:=kS;have PZ: ∀b∈more UU st.known,b.prop ρ:=λb hb=>(ax_.1 hb).elim (λh=>cA b (ayi.1 h).1) (hw.kn b)
 have Dl:(more UU st.known).all (BE.sc st.aY)=true:=by
  unfold more;rw[List.all_append,hw.qF,Bool.and_true];exact axS.2 λx hx=>axS.1 zO x (ayi.1 hx).1
 cases re with
 | none=>
  refine⟨rv.val ρ,w,ρ,.inl hd,Env.Le.refl _,⟨hw.lens,hw.m7,hw.iu,Dl,PZ,hw.own,hw.same,hw.oq⟩,rfl,lZ,hv⟩
 | new ck=>
  obtain⟨w',hpr,iT,hr,uP,jR,hk,hp⟩:=hd;have hle:=Env.FO ρ w.heap.size;have gp:=Env.Le.fP hw.lens hle;have fO:st.aY.le {st.aY with b:=st.aY.b+1}:=by constructor<;>simp
  refine⟨_,w',ρ.oN w.heap.size,.inl hr,hle,⟨hw.lens.oN _,dz fO hw.m7,?_,ik fO Dl,λb hb=>?_,?_,hw.same.trans uP,ey fO hw.oq⟩,rfl,lZ,hv _⟩
  .simp only[eg,List.all_append,ai];refine⟨ky fO hw.iu,?_⟩;simp only[List.all_cons,List.all_nil,Bool.and_true];unfold JD at iT;split at iT
   .split at iT
    .rename_i hb;subst hb;simp only[Bl.sc]at lT;simp only[Ck.sc,ai,ayb];exact⟨Nat.lt_succ_self _,SV.gf fO lT⟩
    .cases iT
   .split at iT
    .rename_i hb;subst hb;simp only[Bl.sc,ai]at lT;simp only[Ck.sc,ai,ayb];exact⟨⟨⟨Nat.lt_succ_self _,SV.gf fO lT.1.1⟩,E.bp fO lT.1.2⟩,lp fO lT.2⟩
    .cases iT
   .split at iT
    .rename_i hb;subst hb;simp only[Bl.sc,ai]at lT;simp only[Ck.sc,ai,ayb];exact⟨⟨Nat.lt_succ_self _,SV.gf fO lT.1⟩,axS.2 λe he=>SV.gf fO (axS.1 lT.2 e he)⟩
    .cases iT
   .split at iT
    .rename_i hb;subst hb;simp only[Bl.sc,ai]at lT;simp only[Ck.sc,ai,ayb];exact⟨⟨Nat.lt_succ_self _,E.bp fO lT.1⟩,E.bp fO lT.2⟩
    .cases iT
   .split at iT
    .rename_i hb;subst hb;simp only[Ck.sc,ayb];exact Nat.lt_succ_self _
    .cases iT
   .split at iT
    .rename_i hb;subst hb;simp only[Bl.sc,ayb]at lT;simp only[Ck.sc,ai,ayb];exact⟨Nat.lt_succ_self _,Nat.lt_succ_of_lt lT⟩
    .cases iT
   .cases iT
  .exact(BE.jV gp (axS.1 Dl b hb)).1 (PZ b hb)
  .simp only[eg,List.map_append];refine aU.add (S':=λk=>k=w.heap.size) ?_ _ (by omega) hk ?_ (λk hk=>by omega)
   .rw [<-mZ gp hw.iu];exact hw.own
   .unfold JD at iT;split at iT
    .split at iT
     .rename_i cs hb;subst hb;cases iT;simp only[Bl.sc]at lT;simp only[Ck.den,jK ρ _ hw.lens.b];have:SV.aq ρ cs=SV.aq (ρ.oN w.heap.size) cs:=(SV.ic gp lT).2;rw[<-this];exact hp
     .cases iT
    .split at iT
     .rename_i kl ka va z has aB hb;subst hb;cases iT;simp only[Bl.sc,ai]at lT;have hc:aB.map (bU.cells ρ)=aB.map (bU.cells (ρ.oN w.heap.size)):=List.map_congr_left λk hk=>bU.Bf gp (axS.1 lT.2 k hk)
      simp only[Ck.den,jK ρ _ hw.lens.b];rw[<-(SV.ic gp lT.1.1).2,<-E.bZ gp lT.1.2,<-hc];exact hp
     .cases iT
    .split at iT
     .rename_i kl ka va z es hb;subst hb;cases iT;simp only[Bl.sc,ai]at lT;have hr:(λi=>SV.aq ρ (oP es z i))=λi=>SV.aq (ρ.oN w.heap.size) (oP es z i):=funext λi=>(SV.ic gp (EC lT.1 lT.2 i)).2
      rw[Ck.mJ,jK ρ _ hw.lens.b,<-(SV.ic gp lT.1).2,<-hr];exact hp
     .cases iT
    .split at iT
     .rename_i t e n a hb;subst hb;cases iT;simp only[Bl.sc,ai]at lT;simp only[Ck.den,jK ρ _ hw.lens.b];rw[<-E.bZ gp lT.1,<-E.bZ gp lT.2];exact hp
     .cases iT
    .split at iT
     .rename_i hb;subst hb;cases iT;simp only[Ck.den,jK ρ _ hw.lens.b];exact hp
     .cases iT
    .split at iT
     .rename_i b m hb;subst hb;cases iT;simp only[Bl.sc,ayb]at lT;simp only[Ck.den,jK ρ _ hw.lens.b];rw[<-gp.b m lT];exact hp
     .cases iT
    .cases iT
 | set j ck=>
  obtain⟨w',hr,hW⟩:=hd;simp only at hr;have hr:run= .ok (.value (rv.val ρ)) w'\/(rv.val ρ=undef/\run= .ok .skip w'):=by
   rcases hr with hr | ⟨rfl,hr⟩
   .exact .inl hr
   .exact .inr ⟨rfl,hr⟩
  obtain⟨VR,hj,vn⟩:=hW.old;have hjd:(st.hp.map (Ck.den ρ))[j]? =some (VR.den ρ):=by rw[List.getElem?_map,hj];rfl
  refine⟨rv.val ρ,w',ρ,hr,Env.Le.refl _,⟨hw.lens,hw.m7,?_,Dl,PZ,?_,hw.same.trans hW.same,hw.oq⟩,rfl,lZ,hv⟩
  .refine axS.2 λq hq=>?_
   rcases ayy hq with hq | rfl
   .exact axS.1 hw.iu q hq
   .exact lT
  .simp only[eg,List.map_set];exact aU.step hS j _ _ hjd vn (S j) (by rw[hW.size];exact Nat.le_refl _) (λk _ hk=>hW.ZW k hk) hW.now (λk hk=> .inl hk)
 | app j ck=>
  obtain⟨t,s,n,aB,v,w',S',rfl,qo,hr,h1,⟨VR,hj,vn⟩,uP,hk,hp,fx⟩:=hd;simp only at qo;subst qo;have hle:=Env.mC ρ ⟨v,h1⟩;have gp:=Env.Le.fP hw.lens hle;have fO:st.aY.le {st.aY with v:=st.aY.v+1}:=by constructor<;>simp
  simp only[Bl.sc,ai]at lT;have hjd:(st.hp.map (Ck.den (ρ.jM ⟨v,h1⟩)))[j]? =some (VR.den ρ):=by rw[<-mZ gp hw.iu,List.getElem?_map,hj];rfl
  refine⟨v,w',ρ.jM ⟨v,h1⟩,.inl hr,hle,⟨hw.lens.jM _,dz fO hw.m7,?_,ik fO Dl,λb hb=>?_,?_,hw.same.trans uP,ey fO hw.oq⟩,?_,lZ,hv _⟩
  .refine axS.2 λq hq=>?_
   rcases ayy hq with hq | rfl
   .exact Ck.bp fO (axS.1 hw.iu q hq)
   .simp only[eg,Ck.sc,ai,ayb];exact⟨⟨Nat.lt_succ_self _,E.bp fO lT.1⟩,lp fO lT.2⟩
  .exact(BE.jV gp (axS.1 Dl b hb)).1 (PZ b hb)
  .simp only[eg,List.map_set];refine aU.step (S:=S) ?_ j _ _ hjd vn S' uP.size hk ?_ fx
   .rw [<-mZ gp hw.iu];exact hS
   .simp only[Ck.den,fX ρ _ hw.lens.v];rw[<-E.bZ gp lT.1,<-vS gp lT.2];exact hp
  .simp only[SV.val,fX ρ _ hw.lens.v]
 | own ck=>
  obtain⟨t,s,n,aB,v,w',S',rfl,qo,hr,h1,uP,hk,hp,fx⟩:=hd;simp only at qo;subst qo;have hle:=Env.mC ρ ⟨v,h1⟩;have gp:=Env.Le.fP hw.lens hle;have fO:st.aY.le {st.aY with v:=st.aY.v+1}:=by constructor<;>simp
  simp only[Bl.sc,ai]at lT;refine⟨v,w',ρ.jM ⟨v,h1⟩,.inl hr,hle,⟨hw.lens.jM _,dz fO hw.m7,?_,ik fO Dl,λb hb=>?_,?_,hw.same.trans uP,ey fO hw.oq⟩,?_,lZ,hv _⟩
  .simp only[eg,List.all_append,ai];refine⟨ky fO hw.iu,?_⟩;simp only[List.all_cons,List.all_nil,Ck.sc,Bool.and_true,ai,ayb];exact⟨⟨Nat.lt_succ_self _,E.bp fO lT.1⟩,lp fO lT.2⟩
  .exact(BE.jV gp (axS.1 Dl b hb)).1 (PZ b hb)
  .simp only[eg,List.map_append];refine aU.add (S':=S') ?_ _ uP.size hk ?_ fx
   .rw [<-mZ gp hw.iu];exact hw.own
   .simp only[Ck.den,fX ρ _ hw.lens.v];rw[<-E.bZ gp lT.1,<-vS gp lT.2];exact hp
  .simp only[SV.val,fX ρ _ hw.lens.v]
 | Gr ck=>
  obtain⟨t,s,n,aB,v,w',S',rfl,qo,hr,h1,uP,hk,hp,fx⟩:=hd;simp only at qo;subst qo;have hle:=Env.mC ρ ⟨v,h1⟩;have gp:=Env.Le.fP hw.lens hle;have fO:st.aY.le {st.aY with v:=st.aY.v+1}:=by constructor<;>simp
  simp only[Bl.sc,ai]at lT;refine⟨v,w',ρ.jM ⟨v,h1⟩,.inl hr,hle,⟨hw.lens.jM _,dz fO hw.m7,?_,ik fO Dl,λb hb=>?_,?_,hw.same.trans uP,ey fO hw.oq⟩,?_,lZ,hv _⟩
  .simp only[eg,List.all_append,ai];refine⟨ky fO hw.iu,?_⟩;simp only[List.all_cons,List.all_nil,Ck.sc,Bool.and_true,ai,ayb];exact⟨⟨Nat.lt_succ_self _,E.bp fO lT.1⟩,lp fO lT.2⟩
  .exact(BE.jV gp (axS.1 Dl b hb)).1 (PZ b hb)
  .simp only[eg,List.map_append];refine aU.add (S':=S') ?_ _ uP.size hk ?_ fx
   .rw [<-mZ gp hw.iu];exact hw.own
   .simp only[Ck.den,fX ρ _ hw.lens.v];rw[<-E.bZ gp lT.1,<-vS gp lT.2];exact hp
  .simp only[SV.val,fX ρ _ hw.lens.v]
theorem nG{g:Option BE}{st:St}{o:Oper}{res:jf}(h:qY C g st o=some res):
  ep C.T (DH g st.known st.fr) st.hp st.aY.b st.aY.v o=some res/\res.sc st.aY=true:=by
 unfold qY at h;split at h
 .rename_i r hr;split at h
  .rename_i hs;cases h;exact⟨hr,hs⟩
  .cases h
 .cases h
theorem Bk{g:Option BE}{st:St}{o:Oper}{res:jf}(h:GJ C g st o=some res):
  (g=some (.lit false)/\res={val:= .undef})\/qY C g st o=some res:=by
 unfold GJ at h;split at h
 .cases h;exact .inl ⟨rfl,rfl⟩
 .exact .inr h
theorem xU{T:List TI}{lk:Nat->Option SV}{hp:List Ck}{nb nv:Nat}{o:Oper}{res:jf}(h:ep T lk hp nb nv o=some res): ∀c,o.op≠ .defer c:=by
 intro c hc;unfold ep at h;rw[hc]at h;cases h
theorem o7{ro:Option Nat}{o:Oper}{K:Act->World->Prop}{Q:Exit->Act->World->Prop}{u:Value}{w':World}(iT: ∀c,o.op≠ .defer c)
  (hr:(execOp a.eval o).run P w= .ok (.value u) w'\/(u=undef/\(execOp a.eval o).run P w= .ok .skip w')) (hk:K (a.put o.dst u) w'):o.wpIn (FW ro) 0 P a w K Q:=by
 refine⟨λf _=>trivial,?_⟩;rw[Oper.semAt_eq _ _ _ iT];rcases hr with hr | ⟨rfl,hr⟩
 .rw [hr];exact hk
 .rw [hr];exact hk
theorem Dm{ro:Option Nat}{o:Oper}{K:Act->World->Prop}{Q:Exit->Act->World->Prop}(h:({o with guard:=none}:Oper).wpIn (FW ro) 0 P a w K Q):o.wpIn (FW ro) 0 P a w K Q:=h
end
end Go.RX
