/- Executor. -/
import Derived.Test.YtmgbbbmdbpbeeaaRxV
open Bool renaming and_eq_true → ai
open List renaming all_eq_true → adt, getElem?_append_left → adz, getElem?_eq_some_iff → adu, mem_filter → adU, mem_or_eq_of_mem_set → ad6
open Nat renaming blt_eq → adK
namespace Go.RX
def FW(ro:Option Nat):Fence:={Fence.wide with round:=ro}
section
variable {P:Program} {C:Ctx} {ax:Value→List HP→Prop} {Fs:List HP} {w0:World} {ρ:Env} {a:Act} {w:World}
def V0(e:zD)(r:F):F:=
 match e with
 | .new _=> .OS r
 | .app .. => .DN r
 | .own .. => .DN r
 | .D0 .. => .DN r
 | _=>r
theorem yf{st:St}(S:Nat→Nat→Prop)(hS:Sep (st.hp.map (Ck.den ρ)++Fs) S w)(rd:List Nat):Reads st.hp ρ w S rd:=by
 intro j _ ck hj;refine(hS.at_ j (ck.den ρ) ?_).1;rw [adz (by simpa using (adu.1 hj).1),List.getElem?_map,hj];rfl
theorem zW(st:St)(e:zD):(cR st e).fr=st.fr∧(cR st e).nt=st.nt∧(cR st e).fn=st.fn∧(cR st e).known=st.known∧(cR st e).aX=e.grow st.aX:=by
 cases e<;>exact⟨rfl,rfl,rfl,rfl,rfl⟩
theorem NF{st:St}{res:gx}{S:Nat→Nat→Prop}{run:Result Next}{r:F}{L:Nat→LC}(hw:HW Fs w0 st ρ w)(hS:Sep (st.hp.map (Ck.den ρ)++Fs) S w)
  (hd:Did P ρ w st.hp S st.aX.b st.aX.v run res) (iA:res.sc st.aX=true) (bV: ∀b∈res.vcs,b.prop ρ) (hv:VC P ax (V0 res.gg r) ρ L):
  ∃u w' bE,(run= .ok (.value u) w'∨(u=undef∧run= .ok .skip w'))∧Env.Le ρ bE∧HW Fs w0 {cR st res.gg with known:=more res.vcs st.known} bE w'∧
   u=res.val.val bE∧res.val.sc (res.gg.grow st.aX)=true∧VC P ax r bE L:=by
 obtain⟨rv,Oc,Rp,re⟩:=res;simp only [gx.sc,ai]at iA;obtain⟨⟨jT,vW⟩,jL⟩:=iA;have KT: ∀b∈more Oc st.known,b.prop ρ:=fun b hb=>(List.mem_append.1 hb).elim (fun h=>bV b (adU.1 h).1) (hw.kn b)
 have zX:(more Oc st.known).all (BE.sc st.aX)=true:=by
  unfold more;rw [List.all_append,hw.mH,Bool.and_true];exact adt.2 fun x hx=>adt.1 vW x (adU.1 hx).1
 cases re with
 | none=>
  refine⟨rv.val ρ,w,ρ,.inl hd,Env.Le.refl _,⟨hw.lens,hw.j9,hw.fy,zX,KT,hw.own,hw.same,hw.kP⟩,rfl,jT,hv⟩
 | new ck=>
  obtain⟨w',Tt,fQ,hr,rK,eL,hk,hp⟩:=hd;have hle:=Env.CT ρ w.heap.size;have dQ:=Env.Le.agree hw.lens hle;have dF:st.aX.le {st.aX with b:=st.aX.b+1}:=by constructor<;>simp
  refine⟨_,w',ρ.lC w.heap.size,.inl hr,hle,⟨hw.lens.lC _,cq dF hw.j9,?_,er dF zX,fun b hb=>?_,?_,hw.same.trans rK,cP dF hw.kP⟩,rfl,jT,hv _⟩
  ·simp only [cR,List.all_append,ai];refine⟨g9 dF hw.fy,?_⟩;simp only [List.all_cons,List.all_nil,Bool.and_true];unfold Gm at fQ;split at fQ
   ·split at fQ
    ·rename_i hb;subst hb;simp only [zD.sc]at jL;simp only [Ck.sc,ai,adK];exact⟨Nat.lt_succ_self _,SV.ep dF jL⟩
    ·cases fQ
   ·split at fQ
    ·rename_i hb;subst hb;simp only [zD.sc,ai]at jL;simp only [Ck.sc,ai,adK];exact⟨⟨⟨Nat.lt_succ_self _,SV.ep dF jL.1.1⟩,E.bj dF jL.1.2⟩,iu dF jL.2⟩
    ·cases fQ
   ·split at fQ
    ·rename_i hb;subst hb;simp only [zD.sc,ai]at jL;simp only [Ck.sc,ai,adK];exact⟨⟨Nat.lt_succ_self _,SV.ep dF jL.1⟩,adt.2 fun e he=>SV.ep dF (adt.1 jL.2 e he)⟩
    ·cases fQ
   ·split at fQ
    ·rename_i hb;subst hb;simp only [zD.sc,ai]at jL;simp only [Ck.sc,ai,adK];exact⟨⟨Nat.lt_succ_self _,E.bj dF jL.1⟩,E.bj dF jL.2⟩
    ·cases fQ
   ·split at fQ
    ·rename_i hb;subst hb;simp only [Ck.sc,adK];exact Nat.lt_succ_self _
    ·cases fQ
   ·cases fQ
  ·exact(BE.fL dQ (adt.1 zX b hb)).1 (KT b hb)
  ·simp only [cR,List.map_append];refine bG.add (S':=fun k=>k=w.heap.size) ?_ _ (by omega) hk ?_ (fun k hk=>by omega)
   ·rw [←jA dQ hw.fy];exact hw.own
   ·unfold Gm at fQ;split at fQ
    ·split at fQ
     ·rename_i cs hb;subst hb;cases fQ;simp only [zD.sc]at jL;simp only [Ck.den,ia ρ _ hw.lens.b];have:SV.aB ρ cs=SV.aB (ρ.lC w.heap.size) cs:=(SV.ff dQ jL).2;rw [←this];exact hp
     ·cases fQ
    ·split at fQ
     ·rename_i kl ka va z has aH hb;subst hb;cases fQ;simp only [zD.sc,ai]at jL;have hc:aH.map (bS.cells ρ)=aH.map (bS.cells (ρ.lC w.heap.size)):=List.map_congr_left fun k hk=>bS.xV dQ (adt.1 jL.2 k hk)
      simp only [Ck.den,ia ρ _ hw.lens.b];rw [←(SV.ff dQ jL.1.1).2,←E.bK dQ jL.1.2,←hc];exact hp
     ·cases fQ
    ·split at fQ
     ·rename_i kl ka va z es hb;subst hb;cases fQ;simp only [zD.sc,ai]at jL;have hr:(fun i=>SV.aB ρ (mi es z i))=fun i=>SV.aB (ρ.lC w.heap.size) (mi es z i):=funext fun i=>(SV.ff dQ (BU jL.1 jL.2 i)).2
      rw [Ck.jX,ia ρ _ hw.lens.b,←(SV.ff dQ jL.1).2,←hr];exact hp
     ·cases fQ
    ·split at fQ
     ·rename_i t e n a hb;subst hb;cases fQ;simp only [zD.sc,ai]at jL;simp only [Ck.den,ia ρ _ hw.lens.b];rw [←E.bK dQ jL.1,←E.bK dQ jL.2];exact hp
     ·cases fQ
    ·split at fQ
     ·rename_i hb;subst hb;cases fQ;simp only [Ck.den,ia ρ _ hw.lens.b];exact hp
     ·cases fQ
    ·cases fQ
 | set j ck=>
  obtain⟨w',hr,hW⟩:=hd;simp only at hr;have hr:run= .ok (.value (rv.val ρ)) w'∨(rv.val ρ=undef∧run= .ok .skip w'):=by
   rcases hr with hr | ⟨rfl,hr⟩
   ·exact .inl hr
   ·exact .inr ⟨rfl,hr⟩
  obtain⟨OY,hj,s8⟩:=hW.old;have YT:(st.hp.map (Ck.den ρ))[j]? =some (OY.den ρ):=by rw [List.getElem?_map,hj];rfl
  refine⟨rv.val ρ,w',ρ,hr,Env.Le.refl _,⟨hw.lens,hw.j9,?_,zX,KT,?_,hw.same.trans hW.same,hw.kP⟩,rfl,jT,hv⟩
  ·refine adt.2 fun q hq=>?_
   rcases ad6 hq with hq | rfl
   ·exact adt.1 hw.fy q hq
   ·exact jL
  ·simp only [cR,List.map_set];exact bG.step hS j _ _ YT s8 (S j) (by rw [hW.size];exact Nat.le_refl _) (fun k _ hk=>hW.keep k hk) hW.now (fun k hk=> .inl hk)
 | app j ck=>
  obtain⟨t,s,n,aH,v,w',S',rfl,kx,hr,h1,⟨OY,hj,s8⟩,rK,hk,hp,dz⟩:=hd;simp only at kx;subst kx;have hle:=Env.jf ρ ⟨v,h1⟩;have dQ:=Env.Le.agree hw.lens hle;have dF:st.aX.le {st.aX with v:=st.aX.v+1}:=by constructor<;>simp
  simp only [zD.sc,ai]at jL;have YT:(st.hp.map (Ck.den (ρ.fF ⟨v,h1⟩)))[j]? =some (OY.den ρ):=by rw [←jA dQ hw.fy,List.getElem?_map,hj];rfl
  refine⟨v,w',ρ.fF ⟨v,h1⟩,.inl hr,hle,⟨hw.lens.fF _,cq dF hw.j9,?_,er dF zX,fun b hb=>?_,?_,hw.same.trans rK,cP dF hw.kP⟩,?_,jT,hv _⟩
  ·refine adt.2 fun q hq=>?_
   rcases ad6 hq with hq | rfl
   ·exact Ck.bj dF (adt.1 hw.fy q hq)
   ·simp only [cR,Ck.sc,ai,adK];exact⟨⟨Nat.lt_succ_self _,E.bj dF jL.1⟩,iu dF jL.2⟩
  ·exact(BE.fL dQ (adt.1 zX b hb)).1 (KT b hb)
  ·simp only [cR,List.map_set];refine bG.step (S:=S) ?_ j _ _ YT s8 S' rK.size hk ?_ dz
   ·rw [←jA dQ hw.fy];exact hS
   ·simp only [Ck.den,dB ρ _ hw.lens.v];rw [←E.bK dQ jL.1,←so dQ jL.2];exact hp
  ·simp only [SV.val,dB ρ _ hw.lens.v]
 | own ck=>
  obtain⟨t,s,n,aH,v,w',S',rfl,kx,hr,h1,rK,hk,hp,dz⟩:=hd;simp only at kx;subst kx;have hle:=Env.jf ρ ⟨v,h1⟩;have dQ:=Env.Le.agree hw.lens hle;have dF:st.aX.le {st.aX with v:=st.aX.v+1}:=by constructor<;>simp
  simp only [zD.sc,ai]at jL;refine⟨v,w',ρ.fF ⟨v,h1⟩,.inl hr,hle,⟨hw.lens.fF _,cq dF hw.j9,?_,er dF zX,fun b hb=>?_,?_,hw.same.trans rK,cP dF hw.kP⟩,?_,jT,hv _⟩
  ·simp only [cR,List.all_append,ai];refine⟨g9 dF hw.fy,?_⟩;simp only [List.all_cons,List.all_nil,Ck.sc,Bool.and_true,ai,adK];exact⟨⟨Nat.lt_succ_self _,E.bj dF jL.1⟩,iu dF jL.2⟩
  ·exact(BE.fL dQ (adt.1 zX b hb)).1 (KT b hb)
  ·simp only [cR,List.map_append];refine bG.add (S':=S') ?_ _ rK.size hk ?_ dz
   ·rw [←jA dQ hw.fy];exact hw.own
   ·simp only [Ck.den,dB ρ _ hw.lens.v];rw [←E.bK dQ jL.1,←so dQ jL.2];exact hp
  ·simp only [SV.val,dB ρ _ hw.lens.v]
 | D0 ck=>
  obtain⟨t,s,n,aH,v,w',S',rfl,kx,hr,h1,rK,hk,hp,dz⟩:=hd;simp only at kx;subst kx;have hle:=Env.jf ρ ⟨v,h1⟩;have dQ:=Env.Le.agree hw.lens hle;have dF:st.aX.le {st.aX with v:=st.aX.v+1}:=by constructor<;>simp
  simp only [zD.sc,ai]at jL;refine⟨v,w',ρ.fF ⟨v,h1⟩,.inl hr,hle,⟨hw.lens.fF _,cq dF hw.j9,?_,er dF zX,fun b hb=>?_,?_,hw.same.trans rK,cP dF hw.kP⟩,?_,jT,hv _⟩
  ·simp only [cR,List.all_append,ai];refine⟨g9 dF hw.fy,?_⟩;simp only [List.all_cons,List.all_nil,Ck.sc,Bool.and_true,ai,adK];exact⟨⟨Nat.lt_succ_self _,E.bj dF jL.1⟩,iu dF jL.2⟩
  ·exact(BE.fL dQ (adt.1 zX b hb)).1 (KT b hb)
  ·simp only [cR,List.map_append];refine bG.add (S':=S') ?_ _ rK.size hk ?_ dz
   ·rw [←jA dQ hw.fy];exact hw.own
   ·simp only [Ck.den,dB ρ _ hw.lens.v];rw [←E.bK dQ jL.1,←so dQ jL.2];exact hp
  ·simp only [SV.val,dB ρ _ hw.lens.v]
theorem kG{g:Option BE}{st:St}{o:Oper}{res:gx}(h:nS C g st o=some res):
  dh C.T (Ax g st.known st.fr) st.hp st.aX.b st.aX.v o=some res∧res.sc st.aX=true:=by
 unfold nS at h;split at h
 ·rename_i r hr;split at h
  ·rename_i hs;cases h;exact⟨hr,hs⟩
  ·cases h
 ·cases h
theorem yd{g:Option BE}{st:St}{o:Oper}{res:gx}(h:Ec C g st o=some res):
  (g=some (.lit false)∧res={val:= .undef})∨nS C g st o=some res:=by
 unfold Ec at h;split at h
 ·cases h;exact .inl ⟨rfl,rfl⟩
 ·exact .inr h
theorem tS{T:List TI}{lk:Nat→Option SV}{hp:List Ck}{nb nv:Nat}{o:Oper}{res:gx}(h:dh T lk hp nb nv o=some res): ∀c,o.op≠ .defer c:=by
 intro c hc;unfold dh at h;rw [hc]at h;cases h
theorem lQ{ro:Option Nat}{o:Oper}{K:Act→World→Prop}{Q:Exit→Act→World→Prop}{u:Value}{w':World}(fQ: ∀c,o.op≠ .defer c)
  (hr:(execOp a.eval o).run P w= .ok (.value u) w'∨(u=undef∧(execOp a.eval o).run P w= .ok .skip w')) (hk:K (a.put o.dst u) w'):o.wpIn (FW ro) 0 P a w K Q:=by
 refine⟨fun f _=>trivial,?_⟩;rw [Oper.semAt_eq _ _ _ fQ];rcases hr with hr | ⟨rfl,hr⟩
 ·rw [hr];exact hk
 ·rw [hr];exact hk
theorem zY{ro:Option Nat}{o:Oper}{K:Act→World→Prop}{Q:Exit→Act→World→Prop}(h:({o with guard:=none}:Oper).wpIn (FW ro) 0 P a w K Q):o.wpIn (FW ro) 0 P a w K Q:=h
end
end Go.RX
