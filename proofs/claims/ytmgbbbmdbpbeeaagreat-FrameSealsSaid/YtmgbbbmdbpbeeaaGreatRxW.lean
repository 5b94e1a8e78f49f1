/- Executor. -/
import Derived.Test.YtmgbbbmdbpbeeaaGreatRxV
open Bool renaming and_eq_true → ai
open List renaming all_eq_true → aeT, getElem?_append_left → ae1, getElem?_eq_some_iff → aeV, mem_filter → afk, mem_or_eq_of_mem_set → afv
open Nat renaming blt_eq → afb
namespace Go.RX
def FW(ro:Option Nat):Fence:={Fence.wide with round:=ro}
section
variable {P:Program} {C:Ctx} {ar:Value→List HP→Prop} {Fs:List HP} {w0:World} {ρ:Env} {a:Act} {w:World}
def Xf(e:zq)(r:F):F:=
 match e with
 | .new _=> .PL r
 | .app .. => .Dz r
 | .own .. => .Dz r
 | .DM .. => .Dz r
 | _=>r
theorem xX{st:St}(S:Nat→Nat→Prop)(hS:Sep (st.hp.map (Ck.den ρ)++Fs) S w)(rd:List Nat):Reads st.hp ρ w S rd:=by
 intro j _ ck hj;refine(hS.at_ j (ck.den ρ) ?_).1;rw [ae1 (by simpa using (aeV.1 hj).1),List.getElem?_map,hj];rfl
theorem zJ(st:St)(e:zq):(c7 st e).fr=st.fr∧(c7 st e).nt=st.nt∧(c7 st e).fn=st.fn∧(c7 st e).known=st.known∧(c7 st e).bd=e.grow st.bd:=by
 cases e<;>exact⟨rfl,rfl,rfl,rfl,rfl⟩
theorem Ov{st:St}{res:hZ}{S:Nat→Nat→Prop}{run:Result Next}{r:F}{L:Nat→LC}(hw:HW Fs w0 st ρ w)(hS:Sep (st.hp.map (Ck.den ρ)++Fs) S w)
  (hd:Did P ρ w st.hp S st.bd.b st.bd.v run res) (iJ:res.sc st.bd=true) (bY: ∀b∈res.vcs,b.prop ρ) (hv:VC P ar (Xf res.hO r) ρ L):
  ∃u w' bI,(run= .ok (.value u) w'∨(u=undef∧run= .ok .skip w'))∧Env.Le ρ bI∧HW Fs w0 {c7 st res.hO with known:=more res.vcs st.known} bI w'∧
   u=res.val.val bI∧res.val.sc (res.hO.grow st.bd)=true∧VC P ar r bI L:=by
 obtain⟨rv,OX,Sk,re⟩:=res;simp only [hZ.sc,ai]at iJ;obtain⟨⟨j_,vW⟩,jL⟩:=iJ;have zl: ∀b∈more OX st.known,b.prop ρ:=fun b hb=>(List.mem_append.1 hb).elim (fun h=>bY b (afk.1 h).1) (hw.kn b)
 have zK:(more OX st.known).all (BE.sc st.bd)=true:=by
  unfold more;rw [List.all_append,hw.mL,Bool.and_true];exact aeT.2 fun x hx=>aeT.1 vW x (afk.1 hx).1
 cases re with
 | none=>
  refine⟨rv.val ρ,w,ρ,.inl hd,Env.Le.refl _,⟨hw.lens,hw.kd,hw.fm,zK,zl,hw.own,hw.same,hw.kS⟩,rfl,j_,hv⟩
 | new ck=>
  obtain⟨w',UE,gn,hr,q9,fx,hk,hp⟩:=hd;have hle:=Env.CD ρ w.heap.size;have eD:=Env.Le.agree hw.lens hle;have dH:st.bd.le {st.bd with b:=st.bd.b+1}:=by constructor<;>simp
  refine⟨_,w',ρ.lI w.heap.size,.inl hr,hle,⟨hw.lens.lI _,cF dH hw.kd,?_,eT dH zK,fun b hb=>?_,?_,hw.same.trans q9,c6 dH hw.kS⟩,rfl,j_,hv _⟩
  ·simp only [c7,List.all_append,ai];refine⟨ik dH hw.fm,?_⟩;simp only [List.all_cons,List.all_nil,Bool.and_true];unfold F8 at gn;split at gn
   ·split at gn
    ·rename_i hb;subst hb;simp only [zq.sc]at jL;simp only [Ck.sc,ai,afb];exact⟨Nat.lt_succ_self _,SV.eS dH jL⟩
    ·cases gn
   ·split at gn
    ·rename_i hb;subst hb;simp only [zq.sc,ai]at jL;simp only [Ck.sc,ai,afb];exact⟨⟨⟨Nat.lt_succ_self _,SV.eS dH jL.1.1⟩,E.bA dH jL.1.2⟩,iM dH jL.2⟩
    ·cases gn
   ·split at gn
    ·rename_i hb;subst hb;simp only [zq.sc,ai]at jL;simp only [Ck.sc,ai,afb];exact⟨⟨Nat.lt_succ_self _,SV.eS dH jL.1⟩,aeT.2 fun e he=>SV.eS dH (aeT.1 jL.2 e he)⟩
    ·cases gn
   ·split at gn
    ·rename_i hb;subst hb;simp only [zq.sc,ai]at jL;simp only [Ck.sc,ai,afb];exact⟨⟨Nat.lt_succ_self _,E.bA dH jL.1⟩,E.bA dH jL.2⟩
    ·cases gn
   ·split at gn
    ·rename_i hb;subst hb;simp only [Ck.sc,afb];exact Nat.lt_succ_self _
    ·cases gn
   ·cases gn
  ·exact(BE.gf eD (aeT.1 zK b hb)).1 (zl b hb)
  ·simp only [c7,List.map_append];refine bK.add (S':=fun k=>k=w.heap.size) ?_ _ (by omega) hk ?_ (fun k hk=>by omega)
   ·rw [←jz eD hw.fm];exact hw.own
   ·unfold F8 at gn;split at gn
    ·split at gn
     ·rename_i cs hb;subst hb;cases gn;simp only [zq.sc]at jL;simp only [Ck.den,iG ρ _ hw.lens.b];have:SV.aC ρ cs=SV.aC (ρ.lI w.heap.size) cs:=(SV.fI eD jL).2;rw [←this];exact hp
     ·cases gn
    ·split at gn
     ·rename_i kl ka va z has aF hb;subst hb;cases gn;simp only [zq.sc,ai]at jL;have hc:aF.map (bV.cells ρ)=aF.map (bV.cells (ρ.lI w.heap.size)):=List.map_congr_left fun k hk=>bV.xQ eD (aeT.1 jL.2 k hk)
      simp only [Ck.den,iG ρ _ hw.lens.b];rw [←(SV.fI eD jL.1.1).2,←E.bQ eD jL.1.2,←hc];exact hp
     ·cases gn
    ·split at gn
     ·rename_i kl ka va z es hb;subst hb;cases gn;simp only [zq.sc,ai]at jL;have hr:(fun i=>SV.aC ρ (mr es z i))=fun i=>SV.aC (ρ.lI w.heap.size) (mr es z i):=funext fun i=>(SV.fI eD (Bv jL.1 jL.2 i)).2
      rw [Ck.jX,iG ρ _ hw.lens.b,←(SV.fI eD jL.1).2,←hr];exact hp
     ·cases gn
    ·split at gn
     ·rename_i t e n a hb;subst hb;cases gn;simp only [zq.sc,ai]at jL;simp only [Ck.den,iG ρ _ hw.lens.b];rw [←E.bQ eD jL.1,←E.bQ eD jL.2];exact hp
     ·cases gn
    ·split at gn
     ·rename_i hb;subst hb;cases gn;simp only [Ck.den,iG ρ _ hw.lens.b];exact hp
     ·cases gn
    ·cases gn
 | set j ck=>
  obtain⟨w',hr,hW⟩:=hd;simp only at hr;have hr:run= .ok (.value (rv.val ρ)) w'∨(rv.val ρ=undef∧run= .ok .skip w'):=by
   rcases hr with hr | ⟨rfl,hr⟩
   ·exact .inl hr
   ·exact .inr ⟨rfl,hr⟩
  obtain⟨PS,hj,tx⟩:=hW.old;have hjd:(st.hp.map (Ck.den ρ))[j]? =some (PS.den ρ):=by rw [List.getElem?_map,hj];rfl
  refine⟨rv.val ρ,w',ρ,hr,Env.Le.refl _,⟨hw.lens,hw.kd,?_,zK,zl,?_,hw.same.trans hW.same,hw.kS⟩,rfl,j_,hv⟩
  ·refine aeT.2 fun q hq=>?_
   rcases afv hq with hq | rfl
   ·exact aeT.1 hw.fm q hq
   ·exact jL
  ·simp only [c7,List.map_set];exact bK.step hS j _ _ hjd tx (S j) (by rw [hW.size];exact Nat.le_refl _) (fun k _ hk=>hW.keep k hk) hW.now (fun k hk=> .inl hk)
 | app j ck=>
  obtain⟨t,s,n,aF,v,w',S',rfl,kf,hr,h1,⟨PS,hj,tx⟩,q9,hk,hp,dI⟩:=hd;simp only at kf;subst kf;have hle:=Env.jk ρ ⟨v,h1⟩;have eD:=Env.Le.agree hw.lens hle;have dH:st.bd.le {st.bd with v:=st.bd.v+1}:=by constructor<;>simp
  simp only [zq.sc,ai]at jL;have hjd:(st.hp.map (Ck.den (ρ.fW ⟨v,h1⟩)))[j]? =some (PS.den ρ):=by rw [←jz eD hw.fm,List.getElem?_map,hj];rfl
  refine⟨v,w',ρ.fW ⟨v,h1⟩,.inl hr,hle,⟨hw.lens.fW _,cF dH hw.kd,?_,eT dH zK,fun b hb=>?_,?_,hw.same.trans q9,c6 dH hw.kS⟩,?_,j_,hv _⟩
  ·refine aeT.2 fun q hq=>?_
   rcases afv hq with hq | rfl
   ·exact Ck.bA dH (aeT.1 hw.fm q hq)
   ·simp only [c7,Ck.sc,ai,afb];exact⟨⟨Nat.lt_succ_self _,E.bA dH jL.1⟩,iM dH jL.2⟩
  ·exact(BE.gf eD (aeT.1 zK b hb)).1 (zl b hb)
  ·simp only [c7,List.map_set];refine bK.step (S:=S) ?_ j _ _ hjd tx S' q9.size hk ?_ dI
   ·rw [←jz eD hw.fm];exact hS
   ·simp only [Ck.den,dN ρ _ hw.lens.v];rw [←E.bQ eD jL.1,←sF eD jL.2];exact hp
  ·simp only [SV.val,dN ρ _ hw.lens.v]
 | own ck=>
  obtain⟨t,s,n,aF,v,w',S',rfl,kf,hr,h1,q9,hk,hp,dI⟩:=hd;simp only at kf;subst kf;have hle:=Env.jk ρ ⟨v,h1⟩;have eD:=Env.Le.agree hw.lens hle;have dH:st.bd.le {st.bd with v:=st.bd.v+1}:=by constructor<;>simp
  simp only [zq.sc,ai]at jL;refine⟨v,w',ρ.fW ⟨v,h1⟩,.inl hr,hle,⟨hw.lens.fW _,cF dH hw.kd,?_,eT dH zK,fun b hb=>?_,?_,hw.same.trans q9,c6 dH hw.kS⟩,?_,j_,hv _⟩
  ·simp only [c7,List.all_append,ai];refine⟨ik dH hw.fm,?_⟩;simp only [List.all_cons,List.all_nil,Ck.sc,Bool.and_true,ai,afb];exact⟨⟨Nat.lt_succ_self _,E.bA dH jL.1⟩,iM dH jL.2⟩
  ·exact(BE.gf eD (aeT.1 zK b hb)).1 (zl b hb)
  ·simp only [c7,List.map_append];refine bK.add (S':=S') ?_ _ q9.size hk ?_ dI
   ·rw [←jz eD hw.fm];exact hw.own
   ·simp only [Ck.den,dN ρ _ hw.lens.v];rw [←E.bQ eD jL.1,←sF eD jL.2];exact hp
  ·simp only [SV.val,dN ρ _ hw.lens.v]
 | DM ck=>
  obtain⟨t,s,n,aF,v,w',S',rfl,kf,hr,h1,q9,hk,hp,dI⟩:=hd;simp only at kf;subst kf;have hle:=Env.jk ρ ⟨v,h1⟩;have eD:=Env.Le.agree hw.lens hle;have dH:st.bd.le {st.bd with v:=st.bd.v+1}:=by constructor<;>simp
  simp only [zq.sc,ai]at jL;refine⟨v,w',ρ.fW ⟨v,h1⟩,.inl hr,hle,⟨hw.lens.fW _,cF dH hw.kd,?_,eT dH zK,fun b hb=>?_,?_,hw.same.trans q9,c6 dH hw.kS⟩,?_,j_,hv _⟩
  ·simp only [c7,List.all_append,ai];refine⟨ik dH hw.fm,?_⟩;simp only [List.all_cons,List.all_nil,Ck.sc,Bool.and_true,ai,afb];exact⟨⟨Nat.lt_succ_self _,E.bA dH jL.1⟩,iM dH jL.2⟩
  ·exact(BE.gf eD (aeT.1 zK b hb)).1 (zl b hb)
  ·simp only [c7,List.map_append];refine bK.add (S':=S') ?_ _ q9.size hk ?_ dI
   ·rw [←jz eD hw.fm];exact hw.own
   ·simp only [Ck.den,dN ρ _ hw.lens.v];rw [←E.bQ eD jL.1,←sF eD jL.2];exact hp
  ·simp only [SV.val,dN ρ _ hw.lens.v]
theorem kI{g:Option BE}{st:St}{o:Oper}{res:hZ}(h:nZ C g st o=some res):
  dA C.T (Av g st.known st.fr) st.hp st.bd.b st.bd.v o=some res∧res.sc st.bd=true:=by
 unfold nZ at h;split at h
 ·rename_i r hr;split at h
  ·rename_i hs;cases h;exact⟨hr,hs⟩
  ·cases h
 ·cases h
theorem xV{g:Option BE}{st:St}{o:Oper}{res:hZ}(h:D1 C g st o=some res):
  (g=some (.lit false)∧res={val:= .undef})∨nZ C g st o=some res:=by
 unfold D1 at h;split at h
 ·cases h;exact .inl ⟨rfl,rfl⟩
 ·exact .inr h
theorem ud{T:List TI}{lk:Nat→Option SV}{hp:List Ck}{nb nv:Nat}{o:Oper}{res:hZ}(h:dA T lk hp nb nv o=some res): ∀c,o.op≠ .defer c:=by
 intro c hc;unfold dA at h;rw [hc]at h;cases h
theorem lV{ro:Option Nat}{o:Oper}{K:Act→World→Prop}{Q:Exit→Act→World→Prop}{u:Value}{w':World}(gn: ∀c,o.op≠ .defer c)
  (hr:(execOp a.eval o).run P w= .ok (.value u) w'∨(u=undef∧(execOp a.eval o).run P w= .ok .skip w')) (hk:K (a.put o.dst u) w'):o.wpIn (FW ro) 0 P a w K Q:=by
 refine⟨fun f _=>trivial,?_⟩;rw [Oper.semAt_eq _ _ _ gn];rcases hr with hr | ⟨rfl,hr⟩
 ·rw [hr];exact hk
 ·rw [hr];exact hk
theorem zL{ro:Option Nat}{o:Oper}{K:Act→World→Prop}{Q:Exit→Act→World→Prop}(h:({o with guard:=none}:Oper).wpIn (FW ro) 0 P a w K Q):o.wpIn (FW ro) 0 P a w K Q:=h
end
end Go.RX
