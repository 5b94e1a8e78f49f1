/- Executor. -/
import Derived.Test.YtphemenngjkfbaaRxV
open Bool renaming and_eq_true → ai
open List renaming all_eq_true → adI, getElem?_append_left → adO, getElem?_eq_some_iff → adJ, mem_append → aea, mem_filter → ad7, mem_or_eq_of_mem_set → aee
open Nat renaming blt_eq → adX
namespace Go.RX
def FW(ro:Option Nat):Fence:={Fence.wide with round:=ro}
section
variable {P:Program} {C:Ctx} {ao:Value→List HP→Prop} {Fs:List HP} {w0:World} {ρ:Env} {a:Act} {w:World}
def We(e:Am)(r:F):F:=
 match e with
 | .new _=> .wD r
 | .app .. => .xS r
 | .own .. => .xS r
 | .DL .. => .xS r
 | _=>r
theorem yH{st:St}(S:Nat→Nat→Prop)(hS:Sep (st.hp.map (Ck.den ρ)++Fs) S w)(rd:List Nat):Reads st.hp ρ w S rd:=by
 intro j _ ck hj;refine(hS.at_ j (ck.den ρ) ?_).1;rw [adO (by simpa using (adJ.1 hj).1),List.getElem?_map,hj];rfl
theorem AJ(st:St)(e:Am):(db st e).fr=st.fr∧(db st e).nt=st.nt∧(db st e).fn=st.fn∧(db st e).known=st.known∧(db st e).aQ=e.grow st.aQ:=by
 cases e<;>exact⟨rfl,rfl,rfl,rfl,rfl⟩
theorem OR{st:St}{res:gU}{S:Nat→Nat→Prop}{run:Result Next}{r:F}{L:Nat→LC}(hw:HW Fs w0 st ρ w)(hS:Sep (st.hp.map (Ck.den ρ)++Fs) S w)
  (hd:sV P ρ w st.hp S st.aQ.b st.aQ.v run res) (iM:res.sc st.aQ=true) (cb: ∀b∈res.vcs,b.prop ρ) (hv:VC P ao (We res.gJ r) ρ L):
  ∃u w' bC,(run= .ok (.value u) w'∨(u=undef∧run= .ok .skip w'))∧Env.Le ρ bC∧HW Fs w0 {db st res.gJ with known:=more res.vcs st.known} bC w'∧
   u=res.val.val bC∧res.val.sc (res.gJ.grow st.aQ)=true∧VC P ao r bC L:=by
 obtain⟨rv,Pf,RK,re⟩:=res;simp only [gU.sc,ai]at iM;obtain⟨⟨je,tL⟩,jZ⟩:=iM;have Ih: ∀b∈more Pf st.known,b.prop ρ:=fun b hb=>(aea.1 hb).elim (fun h=>cb b (ad7.1 h).1) (hw.kn b)
 have AK:(more Pf st.known).all (BE.sc st.aQ)=true:=by
  unfold more;rw [List.all_append,hw.nE,Bool.and_true];exact adI.2 fun x hx=>adI.1 tL x (ad7.1 hx).1
 cases re with
 | none=>
  refine⟨rv.val ρ,w,ρ,.inl hd,Env.Le.refl _,⟨hw.lens,hw.kz,hw.fg,AK,Ih,hw.own,hw.same,hw.lu⟩,rfl,je,hv⟩
 | new ck=>
  obtain⟨w',Pz,fY,hr,yK,eV,hk,hp⟩:=hd;have hle:=Env.CS ρ w.heap.size;have ey:=Env.Le.agree hw.lens hle;have dZ:st.aQ.le {st.aQ with b:=st.aQ.b+1}:=by constructor<;>simp
  refine⟨_,w',ρ.mz w.heap.size,.inl hr,hle,⟨hw.lens.mz _,cD dZ hw.kz,?_,eO dZ AK,fun b hb=>?_,?_,hw.same.trans yK,c_ dZ hw.lu⟩,rfl,je,hv _⟩
  ·simp only [db,List.all_append,ai];refine⟨im dZ hw.fg,?_⟩;simp only [List.all_cons,List.all_nil,Bool.and_true];unfold Gr at fY;split at fY
   ·split at fY
    ·rename_i hb;subst hb;simp only [Am.sc]at jZ;simp only [Ck.sc,ai,adX];exact⟨Nat.lt_succ_self _,SV.eN dZ jZ⟩
    ·cases fY
   ·split at fY
    ·rename_i hb;subst hb;simp only [Am.sc,ai]at jZ;simp only [Ck.sc,ai,adX];exact⟨⟨⟨Nat.lt_succ_self _,SV.eN dZ jZ.1.1⟩,E.bg dZ jZ.1.2⟩,iP dZ jZ.2⟩
    ·cases fY
   ·split at fY
    ·rename_i hb;subst hb;simp only [Am.sc,ai]at jZ;simp only [Ck.sc,ai,adX];exact⟨⟨Nat.lt_succ_self _,SV.eN dZ jZ.1⟩,adI.2 fun e he=>SV.eN dZ (adI.1 jZ.2 e he)⟩
    ·cases fY
   ·split at fY
    ·rename_i hb;subst hb;simp only [Am.sc,ai]at jZ;simp only [Ck.sc,ai,adX];exact⟨⟨Nat.lt_succ_self _,E.bg dZ jZ.1⟩,E.bg dZ jZ.2⟩
    ·cases fY
   ·split at fY
    ·rename_i hb;subst hb;simp only [Ck.sc,adX];exact Nat.lt_succ_self _
    ·cases fY
   ·cases fY
  ·exact(BE.gn ey (adI.1 AK b hb)).1 (Ih b hb)
  ·simp only [db,List.map_append];refine bd.add (S':=fun k=>k=w.heap.size) ?_ _ (by omega) hk ?_ (fun k hk=>by omega)
   ·rw [←jP ey hw.fg];exact hw.own
   ·unfold Gr at fY;split at fY
    ·split at fY
     ·rename_i cs hb;subst hb;cases fY;simp only [Am.sc]at jZ;simp only [Ck.den,iK ρ _ hw.lens.b];have:SV.ar ρ cs=SV.ar (ρ.mz w.heap.size) cs:=(SV.fF ey jZ).2;rw [←this];exact hp
     ·cases fY
    ·split at fY
     ·rename_i kl ka va z has aA hb;subst hb;cases fY;simp only [Am.sc,ai]at jZ;have hc:aA.map (bV.cells ρ)=aA.map (bV.cells (ρ.mz w.heap.size)):=List.map_congr_left fun k hk=>bV.yA ey (adI.1 jZ.2 k hk)
      simp only [Ck.den,iK ρ _ hw.lens.b];rw [←(SV.fF ey jZ.1.1).2,←E.bR ey jZ.1.2,←hc];exact hp
     ·cases fY
    ·split at fY
     ·rename_i kl ka va z es hb;subst hb;cases fY;simp only [Am.sc,ai]at jZ;have hr:(fun i=>SV.ar ρ (nj es z i))=fun i=>SV.ar (ρ.mz w.heap.size) (nj es z i):=funext fun i=>(SV.fF ey (BU jZ.1 jZ.2 i)).2
      rw [Ck.kj,iK ρ _ hw.lens.b,←(SV.fF ey jZ.1).2,←hr];exact hp
     ·cases fY
    ·split at fY
     ·rename_i t e n a hb;subst hb;cases fY;simp only [Am.sc,ai]at jZ;simp only [Ck.den,iK ρ _ hw.lens.b];rw [←E.bR ey jZ.1,←E.bR ey jZ.2];exact hp
     ·cases fY
    ·split at fY
     ·rename_i hb;subst hb;cases fY;simp only [Ck.den,iK ρ _ hw.lens.b];exact hp
     ·cases fY
    ·cases fY
 | set j ck=>
  obtain⟨w',hr,hW⟩:=hd;simp only at hr;have hr:run= .ok (.value (rv.val ρ)) w'∨(rv.val ρ=undef∧run= .ok .skip w'):=by
   rcases hr with hr | ⟨rfl,hr⟩
   ·exact .inl hr
   ·exact .inr ⟨rfl,hr⟩
  obtain⟨Pt,hj,wW⟩:=hW.T9;have ZY:(st.hp.map (Ck.den ρ))[j]? =some (Pt.den ρ):=by rw [List.getElem?_map,hj];rfl
  refine⟨rv.val ρ,w',ρ,hr,Env.Le.refl _,⟨hw.lens,hw.kz,?_,AK,Ih,?_,hw.same.trans hW.same,hw.lu⟩,rfl,je,hv⟩
  ·refine adI.2 fun q hq=>?_
   rcases aee hq with hq | rfl
   ·exact adI.1 hw.fg q hq
   ·exact jZ
  ·simp only [db,List.map_set];exact bd.step hS j _ _ ZY wW (S j) (by rw [hW.size];exact Nat.le_refl _) (fun k _ hk=>hW.Sf k hk) hW.now (fun k hk=> .inl hk)
 | app j ck=>
  obtain⟨t,s,n,aA,v,w',S',rfl,pe,hr,h1,⟨Pt,hj,wW⟩,yK,hk,hp,dL⟩:=hd;simp only at pe;subst pe;have hle:=Env.jv ρ ⟨v,h1⟩;have ey:=Env.Le.agree hw.lens hle;have dZ:st.aQ.le {st.aQ with v:=st.aQ.v+1}:=by constructor<;>simp
  simp only [Am.sc,ai]at jZ;have ZY:(st.hp.map (Ck.den (ρ.gb ⟨v,h1⟩)))[j]? =some (Pt.den ρ):=by rw [←jP ey hw.fg,List.getElem?_map,hj];rfl
  refine⟨v,w',ρ.gb ⟨v,h1⟩,.inl hr,hle,⟨hw.lens.gb _,cD dZ hw.kz,?_,eO dZ AK,fun b hb=>?_,?_,hw.same.trans yK,c_ dZ hw.lu⟩,?_,je,hv _⟩
  ·refine adI.2 fun q hq=>?_
   rcases aee hq with hq | rfl
   ·exact Ck.bg dZ (adI.1 hw.fg q hq)
   ·simp only [db,Ck.sc,ai,adX];exact⟨⟨Nat.lt_succ_self _,E.bg dZ jZ.1⟩,iP dZ jZ.2⟩
  ·exact(BE.gn ey (adI.1 AK b hb)).1 (Ih b hb)
  ·simp only [db,List.map_set];refine bd.step (S:=S) ?_ j _ _ ZY wW S' yK.size hk ?_ dL
   ·rw [←jP ey hw.fg];exact hS
   ·simp only [Ck.den,dP ρ _ hw.lens.v];rw [←E.bR ey jZ.1,←tC ey jZ.2];exact hp
  ·simp only [SV.val,dP ρ _ hw.lens.v]
 | own ck=>
  obtain⟨t,s,n,aA,v,w',S',rfl,pe,hr,h1,yK,hk,hp,dL⟩:=hd;simp only at pe;subst pe;have hle:=Env.jv ρ ⟨v,h1⟩;have ey:=Env.Le.agree hw.lens hle;have dZ:st.aQ.le {st.aQ with v:=st.aQ.v+1}:=by constructor<;>simp
  simp only [Am.sc,ai]at jZ;refine⟨v,w',ρ.gb ⟨v,h1⟩,.inl hr,hle,⟨hw.lens.gb _,cD dZ hw.kz,?_,eO dZ AK,fun b hb=>?_,?_,hw.same.trans yK,c_ dZ hw.lu⟩,?_,je,hv _⟩
  ·simp only [db,List.all_append,ai];refine⟨im dZ hw.fg,?_⟩;simp only [List.all_cons,List.all_nil,Ck.sc,Bool.and_true,ai,adX];exact⟨⟨Nat.lt_succ_self _,E.bg dZ jZ.1⟩,iP dZ jZ.2⟩
  ·exact(BE.gn ey (adI.1 AK b hb)).1 (Ih b hb)
  ·simp only [db,List.map_append];refine bd.add (S':=S') ?_ _ yK.size hk ?_ dL
   ·rw [←jP ey hw.fg];exact hw.own
   ·simp only [Ck.den,dP ρ _ hw.lens.v];rw [←E.bR ey jZ.1,←tC ey jZ.2];exact hp
  ·simp only [SV.val,dP ρ _ hw.lens.v]
 | DL ck=>
  obtain⟨t,s,n,aA,v,w',S',rfl,pe,hr,h1,yK,hk,hp,dL⟩:=hd;simp only at pe;subst pe;have hle:=Env.jv ρ ⟨v,h1⟩;have ey:=Env.Le.agree hw.lens hle;have dZ:st.aQ.le {st.aQ with v:=st.aQ.v+1}:=by constructor<;>simp
  simp only [Am.sc,ai]at jZ;refine⟨v,w',ρ.gb ⟨v,h1⟩,.inl hr,hle,⟨hw.lens.gb _,cD dZ hw.kz,?_,eO dZ AK,fun b hb=>?_,?_,hw.same.trans yK,c_ dZ hw.lu⟩,?_,je,hv _⟩
  ·simp only [db,List.all_append,ai];refine⟨im dZ hw.fg,?_⟩;simp only [List.all_cons,List.all_nil,Ck.sc,Bool.and_true,ai,adX];exact⟨⟨Nat.lt_succ_self _,E.bg dZ jZ.1⟩,iP dZ jZ.2⟩
  ·exact(BE.gn ey (adI.1 AK b hb)).1 (Ih b hb)
  ·simp only [db,List.map_append];refine bd.add (S':=S') ?_ _ yK.size hk ?_ dL
   ·rw [←jP ey hw.fg];exact hw.own
   ·simp only [Ck.den,dP ρ _ hw.lens.v];rw [←E.bR ey jZ.1,←tC ey jZ.2];exact hp
  ·simp only [SV.val,dP ρ _ hw.lens.v]
theorem kX{g:Option BE}{st:St}{o:Oper}{res:gU}(h:oK C g st o=some res):
  dB C.T (AX g st.known st.fr) st.hp st.aQ.b st.aQ.v o=some res∧res.sc st.aQ=true:=by
 unfold oK at h;split at h
 ·rename_i r hr;split at h
  ·rename_i hs;cases h;exact⟨hr,hs⟩
  ·cases h
 ·cases h
theorem yF{g:Option BE}{st:St}{o:Oper}{res:gU}(h:D3 C g st o=some res):
  (g=some (.lit false)∧res={val:= .undef})∨oK C g st o=some res:=by
 unfold D3 at h;split at h
 ·cases h;exact .inl ⟨rfl,rfl⟩
 ·exact .inr h
theorem uU{T:List TI}{lk:Nat→Option SV}{hp:List Ck}{nb nv:Nat}{o:Oper}{res:gU}(h:dB T lk hp nb nv o=some res): ∀c,o.op≠ .defer c:=by
 intro c hc;unfold dB at h;rw [hc]at h;cases h
theorem mN{ro:Option Nat}{o:Oper}{K:Act→World→Prop}{Q:Exit→Act→World→Prop}{u:Value}{w':World}(fY: ∀c,o.op≠ .defer c)
  (hr:(execOp a.eval o).run P w= .ok (.value u) w'∨(u=undef∧(execOp a.eval o).run P w= .ok .skip w')) (hk:K (a.put o.dst u) w'):o.wpIn (FW ro) 0 P a w K Q:=by
 refine⟨fun f _=>trivial,?_⟩;rw [Oper.semAt_eq _ _ _ fY];rcases hr with hr | ⟨rfl,hr⟩
 ·rw [hr];exact hk
 ·rw [hr];exact hk
theorem AL{ro:Option Nat}{o:Oper}{K:Act→World→Prop}{Q:Exit→Act→World→Prop}(h:({o with guard:=none}:Oper).wpIn (FW ro) 0 P a w K Q):o.wpIn (FW ro) 0 P a w K Q:=h
end
end Go.RX
