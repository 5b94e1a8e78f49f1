/- Executor. -/
import Derived.Test.YtllcdnkfbeokhaaGreatM20
import Derived.Test.YtllcdnkfbeokhaaGreatProg
open Array renaming getElem?_eq_some_iff -> ax1
open Bool renaming and_eq_true -> ai
open Go.Proofs.Tryz renaming prog -> ax8
open Int renaming toNat -> ag
open List renaming all_eq_true -> axS, append_assoc -> ayl, flatMap_cons -> ayn, getElem?_append_left -> axX, getElem?_append_right -> axY, getElem?_eq_getElem -> ays, getElem?_eq_some_iff -> axT, map_cons -> ayr, mem_map -> ayg
open Nat renaming blt_eq -> ayb
open Option renaming map_eq_some_iff -> axV
open Option.some renaming injEq -> axU
namespace Go.RX
section
variable {P:Program} {C:Ctx} {al:Value->List HP->Prop} {Fs:List HP} {w0:World}
theorem DM(hT:bD P C.T=true){n N:Nat}(hnN:n<N)(yU: ∀m,m<N->sD P C al Fs w0 m){ro:Option Nat}{c:Code}{fd:Func}{f:Nat}(hf:P.funcs[f]? =some fd)(hb:fd.body=some c){k:List KI}{st:St}{ρ LA:Env}{L Lb:Nat->LC}{w:World}
  {az:List SV} {l r fn:Nat} {nt:NT} {fr:List (Nat×SV)} {ps:Array Tmp} {x y:Code} {a':Act}
  (hv:VC P al (run C n (.code c:: .rf l r fn nt fr ps x y fd::k) (iE st f ⟨fd.ntmps,[]⟩ (gg 0 az))) ρ L) (kS:SV.rF st.aY az=true) (hw:HW Fs w0 st ρ w)
  (iL:EH ρ (.rf l r fn nt fr ps x y fd::k) none) (Y0:EH ρ k ro) (YM:nF st.aY fr=true) (P5:nt.ds.all (MK.sc st.aY)=true) (ha:HA fr nt ρ a') (hle:Env.Le LA ρ) (hL: ∀j,j<nl k->L j=Lb j) (hl:l<st.aY.b):
  CallsIn (FW none) 0 P f (SV.bF ρ az).toArray w (rangePost (FW ro) 0 P (ρ.bv.getD l 0) (QK P C al Fs w0 N k LA Lb) a'):=by
 refine callsIn_of_wp_marks hf hb trivial ?_ rfl;have hw':HW Fs w0 (iE st f ⟨fd.ntmps,[]⟩ (gg 0 az)) ρ w:=⟨hw.lens,Ac az 0 kS,hw.iu,hw.qF,hw.kn,hw.own,hw.same,rfl⟩;refine wpIn_mono (yU n hnN none c _ _ ρ L _ w hv hw' (Bo az fd.ntmps) iL) ?_;have key: ∀a1 w1,At P C al Fs w0 n (.rf l r fn nt fr ps x y fd::k) ρ L a1 w1->LeavesInM (FW none) 0 P fd a1.tmps (rangePost (FW ro) 0 P (ρ.bv.getD l 0) (QK P C al Fs w0 N k LA Lb) a') a1.defers .returning w1:=by
  intro a1 w1 ⟨m,hm,ei,bG,L',h1,h2,h3,h4,h5⟩;cases m with
  | zero=>exact h5.elim
  | succ m=>
   simp only[run]at h5;split at h5
   case h_2=>exact h5.elim
   rename_i GN LH;have Q5:GN.fr=ei.fr/\GN.nt=ei.nt/\GN.aY=ei.aY:=by
    unfold o9 at LH;rw[axV]at LH;obtain⟨nR,_,rfl⟩:=LH;exact⟨rfl,rfl,rfl⟩
   split at h5
   case h_2=>exact h5.elim
   rename_i v i r' s j hv JO;split at h5
   .exact h5.elim
   .rename_i afb;refine pI LH h3 h4 λw2 GQ=>?_
    refine⟨_,ra hT GQ (nt:=ei.nt) (by rw[Q5.1];exact h4) hv,?_⟩;have qO:=nU GQ JO;have hbv:bG.bv.getD l 0=ρ.bv.getD l 0:=((Env.Le.fP hw.lens h1).b l hl).symm;rw[hbv]at qO;refine⟨j.code,_,run_endLoop qO (by cases s<;>first | (simp[RS.st];done) | exact absurd rfl afb),?_⟩;have LD:=EK GQ JO .exhausted j;rw[hbv]at LD;have fO:=iZ.le hw.lens GQ.lens h1;have Q6:HW Fs w0 (iE {GN with hp:=GN.hp.set i (.mY l r' .exhausted j)} fn nt fr) bG _:=⟨LD.lens,dz fO YM,LD.iu,LD.qF,LD.kn,LD.own,LD.same,ey fO P5⟩;have ha4:HA fr nt bG a':=ha.more YM P5 (Env.Le.fP hw.lens h1);have Z3: ∀q,q<nl k->L' q=Lb q:=λq hq=>(h2 q hq).trans (hL q hq)
    cases j with
    | none=>
     exact⟨k,rfl,m,by omega,_,bG,L',hle.trans h1,Z3,Q6,ha4,h5⟩
    | ret=>
     exact wpIn_mono (yU m (by omega) ro .ret k _ bG L' a' _ h5 Q6 ha4 (Y0.le h1)) λe a w hq=>hq.mono (by omega) (hle.trans h1) Z3
    | exit id=>
     exact wpIn_mono (yU m (by omega) ro (.exit id) k _ bG L' a' _ h5 Q6 ha4 (Y0.le h1)) λe a w hq=>hq.mono (by omega) (hle.trans h1) Z3
 intro e a1 w1 hq;obtain⟨k',hk,er⟩:=hq;cases e with
 | normal=>cases hk;exact key a1 w1 er
 | ret=>cases hk;exact key a1 w1 er
 | exit id=>cases hk
 | goto l=>cases hk
 | panic l=>cases hk
 | outgrown=>cases hk
theorem N1{ρ:Env}{c:cI}(h:iZ ρ c)(l:Nat)(q:Loop):iZ (ρ.ext ⟨[l],[],[],[],[],[],[q]⟩) {c with b:=c.b+1,r:=c.r+1}:=
 ⟨by simp[Env.ext,h.b],by simp[Env.ext,h.v],by simp[Env.ext,h.i],by simp[Env.ext,h.a],by simp[Env.ext,h.bo],by simp[Env.ext,h.p],by simp[Env.ext,h.r]⟩
theorem N3{ρ:Env}{c:cI}(h:iZ ρ c)(d l:Nat)(q:Loop):iZ (ρ.ext ⟨[d,l],[],[],[],[],[],[q]⟩) {c with b:=c.b+2,r:=c.r+1}:=
 ⟨by simp[Env.ext,h.b],by simp[Env.ext,h.v],by simp[Env.ext,h.i],by simp[Env.ext,h.a],by simp[Env.ext,h.bo],by simp[Env.ext,h.p],by simp[Env.ext,h.r]⟩
theorem uN(w:World)(o:Obj):jm w (w.alloc o):=⟨rfl,rfl,rfl,by simp⟩
theorem GR(hT:bD P C.T=true)(CL:qu P C.FT){n:Nat}(yU: ∀m,m<n->sD P C al Fs w0 m):Q7 P C al Fs w0 n:=by
 intro ro g ps x y k st ρ L a w hv hw ha iL;cases n with
 | zero=>exact hv.elim
 | succ n=>
  have hn:n<n+1:=Nat.lt_succ_self n;simp only[run]at hv;split at hv
  case h_2=>exact hv.elim
  rename_i f jL hg;have hev:=eW ha.eval hg;split at hv
  .exact hv.elim
  rename_i fd Bp;have EJ:=List.mem_of_find?_eq_some Bp;have Nz:=List.find?_some Bp;simp only[beq_iff_eq]at Nz;obtain⟨hf,GU⟩:=CL _ EJ;simp only at hf GU;rw[Nz]at hf;split at hv
  .exact hv.elim
  rename_i c hb;split at hv
  case isFalse=>exact hv.elim
  rename_i DN;have aan: ¬fd.name= "runtime.NumGoroutine" :=by simpa using GU
  have GM: ∀(l:Nat) (w1:World),(resolve a.eval (rangeCall g l) 0).run P w1= .ok {target:= .fn (.func f) (SV.bF ρ jL).toArray,args:= #[.func (.yield l) #[] #[]]} w1:=by
   intro l w1;simp only[resolve,hev,SV.val,Deferred.ofValue];simp[Act.eval]
  have hinv: ∀(l:Nat) (w1:World),(invoke (.fn (.func f) (SV.bF ρ jL).toArray) #[.func (.yield l) #[] #[]]).run P w1= .ok (.enter f (#[.func (.yield l) #[] #[]]++(SV.bF ρ jL).toArray)) w1:=by
   intro l w1;simp[invoke,callFunc,hf,aan,hb]
  have Wh:=iL.ro;split at hv
  ·
   rename_i har;rw[har]at Wh;simp only at Wh;subst Wh;refine wpIn_rangeFunc λfn _=>?_
   have e1:=run_enterLoop_outer (P:=P) (w:=w) fn a.tmps ps x y;refine⟨_,_,_,_,_,f,_,_,e1,GM _ _,λ_ _=>trivial,hinv _ _,λh=>(by cases h),?_⟩;simp only[VC]at hv;have yN:=hv w.heap.size (w.heap.size+1) {state:= .ready,pending:=none,fn,tmps:=a.tmps,params:=ps,assign:=x,body:=y,defers:=w.heap.size};generalize hq:({state:= .ready,pending:=none,fn,tmps:=a.tmps,params:=ps,assign:=x,body:=y,defers:=w.heap.size}:Loop)=q at yN e1 ⊢;have hle:=Env.jo ρ ⟨[w.heap.size,w.heap.size+1],[],[],[],[],[],[q]⟩;have gp:=Env.Le.fP hw.lens hle;have hl:=N3 hw.lens w.heap.size (w.heap.size+1) q;have fO:=iZ.le hw.lens hl hle;have b1:(ρ.ext ⟨[w.heap.size,w.heap.size+1],[],[],[],[],[],[q]⟩).bv.getD st.aY.b 0=w.heap.size:=by simp[Env.ext,<-hw.lens.b]
   have b2:(ρ.ext ⟨[w.heap.size,w.heap.size+1],[],[],[],[],[],[q]⟩).bv.getD (st.aY.b+1) 0=w.heap.size+1:=by simp[Env.ext,<-hw.lens.b]
   have b3:(ρ.ext ⟨[w.heap.size,w.heap.size+1],[],[],[],[],[],[q]⟩).lr.getD st.aY.r j6=q:=by simp[Env.ext,<-hw.lens.r]
   have hqr:({q with state:=RS.ready.st,pending:=Jump.none.code}:Loop)=q:=by subst hq;rfl
   have N4:q.params=ps:=by subst hq;rfl
   have hqa:q.assign=x:=by subst hq;rfl
   have hqb:q.body=y:=by subst hq;rfl
   have hqt:q.tmps=a.tmps:=by subst hq;rfl
   clear hq;generalize akn:ρ.ext ⟨[w.heap.size,w.heap.size+1],[],[],[],[],[],[q]⟩=tm at yN hle gp hl b1 b2 b3;have afd:aU ((st.hp.map (Ck.den tm)++[Az w.heap.size])++Fs) (w.alloc (.deferred (some []))):=by
    refine aU.add (by rw[<-mZ gp hw.iu];exact hw.own) _ (λk=>k=w.heap.size) (by simp) (λk hk=>heap_alloc_old w _ hk) ⟨λ_=>Iff.rfl,heap_alloc_new w _⟩ (λk hk=>by simp;omega)
   have Q8:aU (((st.hp.map (Ck.den tm)++[Az w.heap.size])++[Qw (w.heap.size+1) q])++Fs) ((w.alloc (.deferred (some []))).alloc (.loop q)):=by
    have jR:(w.alloc (.deferred (some []))).heap.size=w.heap.size+1:=by simp
    refine aU.add afd _ (λk=>k=w.heap.size+1) (by simp) (λk hk=>heap_alloc_old _ _ hk) ⟨λ_=>Iff.rfl,?_⟩ (λk hk=>by simp;omega);have:=heap_alloc_new (w.alloc (.deferred (some []))) (.loop q)
    rwa[jR]at this
   have z5:HW Fs w0 {st with hp:=st.hp++[.NP st.aY.b]++[.mY (st.aY.b+1) st.aY.r .ready .none],aY:={st.aY with b:=st.aY.b+2,r:=st.aY.r+1}} tm ((w.alloc (.deferred (some []))).alloc (.loop q)):=by
    refine⟨hl,dz fO hw.m7,?_,ik fO hw.qF,λb hb=>(BE.jV gp (axS.1 hw.qF b hb)).1 (hw.kn b hb),?_,(hw.same.trans (uN _ _)).trans (uN _ _),ey fO hw.oq⟩
    .simp only[List.all_append,ai,List.all_cons,List.all_nil,Ck.sc,ayb];exact⟨⟨ky fO hw.iu,by omega,trivial⟩,⟨by omega,by omega⟩,trivial⟩
    .simp only[List.map_append,ayr,List.map_nil,Ck.den,b1,b2,b3,hqr];exact Q8
   have Q9:nF {st.aY with b:=st.aY.b+2,r:=st.aY.r+1} st.fr=true:=dz fO hw.m7;have ako:(MK.one st.aY.b::st.nt.ds).all (MK.sc {st.aY with b:=st.aY.b+2,r:=st.aY.r+1})=true:=by
    rw[List.all_cons,ai,MK.sc,ayb];exact⟨by show st.aY.b<st.aY.b+2;omega,ey fO hw.oq⟩
   have JP:=ha.more hw.m7 hw.oq gp;have GV:EH tm (.rf (st.aY.b+1) st.aY.r st.fn ⟨st.nt.n,.one st.aY.b::st.nt.ds⟩ st.fr ps x y fd::k) none:=by
    refine⟨λl r fn nt fr ps' x' y' fd' hm=>?_,rfl⟩;rcases List.mem_cons.1 hm with hm | hm
    .cases hm;refine⟨tm,_,hl,Env.Le.refl _,Q9,by simp,by rw[b3,N4],by rw[b3,hqa],by rw[b3,hqb],?_⟩;rw[b3,hqt];exact⟨rfl,JP.size,JP.aQ⟩
    .exact(iL.le hle).rf l r fn nt fr ps' x' y' fd' hm
   have sE:=DM (Lb:=L) hT hn yU hf hb (a':={a with defers:=[{target:= .collected w.heap.size,args:= #[]}]++a.defers}) yN
    (by simp only[SV.rF,SV.sc,ai,ayb];exact⟨by omega,SV.gf fO DN⟩) z5 GV (iL.le hle) Q9 ako
    ⟨by rw[ha.defers,wi gp hw.oq];simp only[marks,ayn,MK.blocks,ayr,b1,List.singleton_append],JP.size,JP.aQ⟩ hle (λ_ _=>rfl) (by simp)
   rw[b2]at sE;have ma:(SV.bF tm (.Nk (st.aY.b+1)::jL)).toArray= #[.func (.yield (w.heap.size+1)) #[] #[]]++(SV.bF ρ jL).toArray:=by
    simp only[SV.bF,SV.val,b2,(SV.ic gp DN).1];simp
   rw[ma]at sE;exact sE
  ·
   rename_i l0 har;rw[har]at Wh;simp only at Wh;obtain⟨yV,c0,k1,k2,k3,k4⟩:=Wh;rw[(Env.Le.fP k1 k2).b l0 k3]at k4;split at hv
   case h_2=>exact hv.elim
   rename_i rc JO;obtain⟨i0,r0,s0,j0⟩:=rc;have qO:=nU hw JO;refine wpIn_rangeFunc λfn _=>?_
   have e1:=run_enterLoop_inner (P:=P) (w:=w) qO fn a.tmps ps x y;rw[show(FW ro).round=ro from rfl,k4];refine⟨_,_,_,_,_,f,_,_,e1,GM _ _,λ_ _=>trivial,hinv _ _,λh=>(by cases h),?_⟩;simp only[VC]at hv;have yN:=hv w.heap.size {state:= .ready,pending:=none,fn,tmps:=a.tmps,params:=ps,assign:=x,body:=y,defers:=({ρ.lr.getD r0 j6 with state:=s0.st,pending:=j0.code}:Loop).defers};generalize hq:({state:= .ready,pending:=none,fn,tmps:=a.tmps,params:=ps,assign:=x,body:=y,defers:=({ρ.lr.getD r0 j6 with state:=s0.st,pending:=j0.code}:Loop).defers}:Loop)=q at yN e1 ⊢;have hle:=Env.jo ρ ⟨[w.heap.size],[],[],[],[],[],[q]⟩;have gp:=Env.Le.fP hw.lens hle;have hl:=N1 hw.lens w.heap.size q;have fO:=iZ.le hw.lens hl hle;have b2:(ρ.ext ⟨[w.heap.size],[],[],[],[],[],[q]⟩).bv.getD st.aY.b 0=w.heap.size:=by simp[Env.ext,<-hw.lens.b]
   have b3:(ρ.ext ⟨[w.heap.size],[],[],[],[],[],[q]⟩).lr.getD st.aY.r j6=q:=by simp[Env.ext,<-hw.lens.r]
   have hqr:({q with state:=RS.ready.st,pending:=Jump.none.code}:Loop)=q:=by subst hq;rfl
   have N4:q.params=ps:=by subst hq;rfl
   have hqa:q.assign=x:=by subst hq;rfl
   have hqb:q.body=y:=by subst hq;rfl
   have hqt:q.tmps=a.tmps:=by subst hq;rfl
   clear hq;generalize akn:ρ.ext ⟨[w.heap.size],[],[],[],[],[],[q]⟩=tm at yN hle gp hl b2 b3;have Q8:aU ((st.hp.map (Ck.den tm)++[Qw w.heap.size q])++Fs) (w.alloc (.loop q)):=by
    refine aU.add (by rw[<-mZ gp hw.iu];exact hw.own) _ (λk=>k=w.heap.size) (by simp) (λk hk=>heap_alloc_old w _ hk) ⟨λ_=>Iff.rfl,heap_alloc_new w _⟩ (λk hk=>by simp;omega)
   have z5:HW Fs w0 {st with hp:=st.hp++[.mY st.aY.b st.aY.r .ready .none],aY:={st.aY with b:=st.aY.b+1,r:=st.aY.r+1}} tm (w.alloc (.loop q)):=by
    refine⟨hl,dz fO hw.m7,?_,ik fO hw.qF,λb hb=>(BE.jV gp (axS.1 hw.qF b hb)).1 (hw.kn b hb),?_,hw.same.trans (uN _ _),ey fO hw.oq⟩
    .simp only[List.all_append,ai,List.all_cons,List.all_nil,Ck.sc,ayb];exact⟨ky fO hw.iu,⟨by omega,by omega⟩,trivial⟩
    .simp only[List.map_append,ayr,List.map_nil,Ck.den,b2,b3,hqr];exact Q8
   have Q9:nF {st.aY with b:=st.aY.b+1,r:=st.aY.r+1} st.fr=true:=dz fO hw.m7;have JP:=ha.more hw.m7 hw.oq gp;have GV:EH tm (.rf st.aY.b st.aY.r st.fn st.nt st.fr ps x y fd::k) none:=by
    refine⟨λl r fn nt fr ps' x' y' fd' hm=>?_,rfl⟩;rcases List.mem_cons.1 hm with hm | hm
    .cases hm;refine⟨tm,_,hl,Env.Le.refl _,Q9,by simp,by rw[b3,N4],by rw[b3,hqa],by rw[b3,hqb],?_⟩;rw[b3,hqt];exact⟨rfl,JP.size,JP.aQ⟩
    .exact(iL.le hle).rf l r fn nt fr ps' x' y' fd' hm
   have sE:=DM (Lb:=L) (ro:=ro) hT hn yU hf hb (a':={a with defers:=[]++a.defers}) yN
    (by simp only[SV.rF,SV.sc,ai,ayb];exact⟨by omega,SV.gf fO DN⟩) z5 GV (iL.le hle) Q9 (ey fO hw.oq)
    ⟨JP.defers,JP.size,JP.aQ⟩ hle (λ_ _=>rfl) (by simp)
   rw[b2]at sE;have ma:(SV.bF tm (.Nk st.aY.b::jL)).toArray= #[.func (.yield w.heap.size) #[] #[]]++(SV.bF ρ jL).toArray:=by
    simp only[SV.bF,SV.val,b2,(SV.ic gp DN).1];simp
   rw[ma]at sE;rw[k4]at sE;exact sE
end
section
variable {P:Program} {C:Ctx} {al:Value->List HP->Prop} {Fs:List HP} {w0:World}
theorem N5(hT:bD P C.T=true)(CL:qu P C.FT)(EL:im P C)(hm:P.follows .mixedOrders=true)(n:Nat):sD P C al Fs w0 n/\uM P C al Fs w0 n/\JN P C al Fs w0 n:=by
 induction n using Nat.strongRecOn with
 | _ n ih=>exact⟨GX hT (λm hm=>(ih m hm).1) (λm hm=>(ih m hm).2.1) (λm hm=>(ih m hm).2.2) (GR hT CL λm hm=>(ih m hm).1),GY hT CL EL (λm hm=>(ih m hm).1) (λm hm=>(ih m hm).2.1),GO hT hm (λm hm=>(ih m hm).2.1)⟩
theorem ao.EM(hT:bD P C.T=true)(CL:qu P C.FT)(hm:P.follows .mixedOrders=true){f:Nat}{fd:Func}(hf:P.funcs[f]? =some fd){args:List SV}{hp:List Ck}{aY:cI}{ρ:Env}(hl:iZ ρ aY)
  (h:VC P al (oR C f args hp aY fd) ρ λ_=>LC.none) (EL:im P C:=by exact im.none rfl):ao P f (SV.bF ρ args) (hp.map (Ck.den ρ)) al:=by
 intro w Fs eX;unfold oR at h;split at h
 case h_2=>exact h.elim
 rename_i c hb;split at h
 case isFalse=>exact h.elim
 rename_i kS;simp only[ai]at kS;have hw:HW Fs w {fn:=f,fr:=gg 0 args,hp:=hp,aY:=aY,nt:=⟨fd.ntmps,[]⟩} ρ w:=
  ⟨hl,Ac args 0 kS.1,kS.2,rfl,λb hb=>(by cases hb),eX,jm.refl w,rfl⟩
 have YY:=(N5 (al:=al) (Fs:=Fs) (w0:=w) hT CL EL hm 100000).1 none c _ _ ρ _ _ w h hw (Bo args fd.ntmps) ⟨λl r fn nt fr ps x y fd hm=>(by simp at hm),rfl⟩;have key: ∀a' w',At P C al Fs w 100000 [.top fd] ρ (λ_=>LC.none) a' w'->LeavesInM (FW none) 0 P fd a'.tmps (λe w'=> ∃v hs,e= .returned v/\al v hs/\aU (hs++Fs) w'/\jm w w') a'.defers .returning w':=by
  intro a' w' ⟨m,hm,ei,bG,L',h1,h2,h3,h4,h5⟩;cases m with
  | zero=>exact h5.elim
  | succ m=>
   simp only[run]at h5;split at h5
   case h_2=>exact h5.elim
   rename_i GN LH;have Q5:GN.fr=ei.fr:=by
    unfold o9 at LH;rw[axV]at LH;obtain⟨nR,_,rfl⟩:=LH;rfl
   split at h5
   .rename_i v hv;refine pI LH h3 h4 λw2 GQ=>?_
    exact⟨_,ra hT GQ (nt:=ei.nt) (by rw[Q5];exact h4) hv,_,_,rfl,h5,GQ.own,GQ.same⟩
   .exact h5.elim
 have fin: ∀e a' w',QK P C al Fs w 100000 [.top fd] ρ (λ_=>LC.none) e a' w'->bodyPostM (FW none) 0 P fd (λe w'=> ∃v hs,e= .returned v/\al v hs/\aU (hs++Fs) w'/\jm w w') e a' w':=by
  intro e a' w' hq;obtain⟨k',hk,er⟩:=hq;cases e with
  | normal=>cases hk;exact key a' w' er
  | ret=>cases hk;exact key a' w' er
  | exit id=>cases hk
  | goto l=>cases hk
  | panic l=>cases hk
  | outgrown=>cases hk
 have main:CallsIn (FW none) 0 P f (SV.bF ρ args).toArray w (λe w'=> ∃v hs,e= .returned v/\al v hs/\aU (hs++Fs) w'/\jm w w'):=by
  refine callsIn_of_wp_marks hf hb trivial (wpIn_mono YY ?_) rfl;exact fin
 have main':CallsIn Fence.wide 0 P f (SV.bF ρ args).toArray w (λe w'=> ∃v hs,e= .returned v/\al v hs/\aU (hs++Fs) w'/\jm w w'):=main;exact callsIn_wide.1 main'
end
theorem qu.nil{P:Program}:qu P []:=λx hx=>(by cases hx)
theorem qu.cons{P:Program}{FT:List (Nat×Func)}{f:Nat}{fd:Func}(h:P.funcs[f]? =some fd)(hn:(fd.name== "runtime.NumGoroutine")=false)(hr:qu P FT):qu P ((f,fd)::FT):=by
 intro x hx;rcases List.mem_cons.1 hx with rfl | hx
 .exact⟨h,hn⟩
 .exact hr x hx
def BE.uO(b:BE):Option Bool:=if b.sc {}then some (b.den Bq)else none
theorem ao.law{P:Program}{f:Nat}{args:List Value}{pre:List HP}(h:ao P f args pre λv _=>v= .bool true)(w:World)(eX:aU (pre++[nZ w.heap.size w]) w):
  Calls P f args.toArray w λe w'=>e= .returned (.bool true)/\RowKit.Below w.heap.size w w':=by
 refine(h w _ eX).mono ?_;rintro e w' ⟨v,hs,rfl,rfl,⟨S,hS⟩,uP⟩;refine⟨rfl,?_⟩;have:=(hS.at_ hs.length (nZ w.heap.size w) (by simp)).1;exact⟨uP.os,uP.tape,uP.output,uP.size,λk hk=>this.2 k hk⟩
open Go.Proofs
set_option maxRecDepth 100000
def nH(n e:Nat):TI:=⟨n,.ptr e,1,8,[.iy],[]⟩
def zP(n e:Nat):TI:=⟨n,.slice e,1,24,[.bW],[]⟩
def P6(n:Nat):TI:=⟨n,.func,1,8,[.qK],[]⟩
def ze(k:IntKind):SV:= .int k (.lit 0)
def zg(k:IntKind)(n:Nat):SV:= .jD k n (.lit 0)
def zf:SV:= .bool (.lit false)
def TT:List TI:=[
 ⟨3,.int .i64,1,8,[ze .i64],[]⟩,
 ⟨4,.bool,1,1,[zf],[]⟩,
 ⟨5,.int .u8,1,1,[ze .u8],[]⟩,
 ⟨9,.str,1,16,[.str []],[]⟩,
 ⟨22,.arr 32 5,32,32,[zg .u8 32],[(some .u8,32)]⟩,
 ⟨23,.arr 32 5,32,32,[zg .u8 32],[(some .u8,32)]⟩,
 ⟨24,.int .u64,1,8,[ze .u64],[]⟩,
 ⟨26,.struct [(5,0),(5,1)],2,2,[ze .u8,ze .u8],[(some .u8,2)]⟩,
 zP 27 93,
 ⟨29,.struct [(26,0),(23,2),(23,34),(27,66)],67,96,[ze .u8,ze .u8,zg .u8 32,zg .u8 32,.bW],[]⟩,
 zP 30 68,
 ⟨32,.struct [(29,0),(3,67),(30,68)],69,128,[ze .u8,ze .u8,zg .u8 32,zg .u8 32,.bW,ze .i64,.bW],[]⟩,
 ⟨33,.arr 8 5,8,8,[zg .u8 8],[(some .u8,8)]⟩,
 zP 34 36,
 ⟨36,.arr 16 5,16,16,[zg .u8 16],[(some .u8,16)]⟩,
 zP 37 5,
 zP 38 26,
 ⟨39,.int .u32,1,4,[ze .u32],[]⟩,
 ⟨41,.struct [(26,0),(33,2),(34,10),(5,11),(36,12),(4,28),(5,29),(26,30),(23,32),(23,64),(23,96),(37,128),(3,129),(38,130),(24,131),(24,132),(24,133),(24,134),(24,135),(39,136)],137,264,[ze .u8,ze .u8,zg .u8 8,.bW,ze .u8,zg .u8 16,zf,ze .u8,ze .u8,ze .u8,zg .u8 32,zg .u8 32,zg .u8 32,.bW,ze .i64,.bW,ze .u64,ze .u64,ze .u64,ze .u64,ze .u64,ze .u32],[]⟩,
 zP 42 98,
 ⟨44,.struct [(23,0),(24,32),(32,33),(41,102),(37,239),(42,240)],241,480,[zg .u8 32,ze .u64,ze .u8,ze .u8,zg .u8 32,zg .u8 32,.bW,ze .i64,.bW,ze .u8,ze .u8,zg .u8 8,.bW,ze .u8,zg .u8 16,zf,ze .u8,ze .u8,ze .u8,zg .u8 32,zg .u8 32,zg .u8 32,.bW,ze .i64,.bW,ze .u64,ze .u64,ze .u64,ze .u64,ze .u64,ze .u32,.bW,.bW],[]⟩,
 ⟨47,.int .i64,1,8,[ze .i64],[]⟩,
 zP 51 84,
 nH 55 117,
 zP 66 77,
 ⟨68,.struct [(26,0),(66,2)],3,32,[ze .u8,ze .u8,.bW],[]⟩,
 ⟨70,.struct [(23,0),(39,32)],33,36,[zg .u8 32,ze .u32],[(some .u8,32),(some .u32,1)]⟩,
 zP 71 245,
 ⟨73,.struct [(23,0),(23,32),(23,64),(23,96),(4,128),(4,129),(4,130),(4,131),(70,132),(70,165),(39,198),(71,199)],200,232,[zg .u8 32,zg .u8 32,zg .u8 32,zg .u8 32,zf,zf,zf,zf,zg .u8 32,ze .u32,zg .u8 32,ze .u32,ze .u32,.bW],[]⟩,
 ⟨75,.struct [(23,0),(23,32),(4,64),(39,65)],66,72,[zg .u8 32,zg .u8 32,zf,ze .u32],[(some .u8,64),(none,1),(some .u32,1)]⟩,
 ⟨77,.struct [(73,0),(75,200),(4,266),(4,267)],268,312,[zg .u8 32,zg .u8 32,zg .u8 32,zg .u8 32,zf,zf,zf,zf,zg .u8 32,ze .u32,zg .u8 32,ze .u32,ze .u32,.bW,zg .u8 32,zg .u8 32,zf,ze .u32,zf,zf],[]⟩,
 nH 78 80,
 ⟨80,.struct [(4,0),(37,1),(4,2)],3,40,[zf,.bW,zf],[]⟩,
 ⟨84,.struct [(5,0),(24,1),(37,2)],3,40,[ze .u8,ze .u64,.bW],[]⟩,
 nH 86 88,
 ⟨88,.struct [(51,0)],1,24,[.bW],[]⟩,
 ⟨93,.struct [(39,0),(23,1)],33,36,[ze .u32,zg .u8 32],[(some .u32,1),(some .u8,32)]⟩,
 ⟨98,.struct [(36,0),(5,16),(4,17),(24,18)],19,32,[zg .u8 16,ze .u8,zf,ze .u64],[(some .u8,17),(none,1),(some .u64,1)]⟩,
 nH 102 44,
 ⟨105,.iface,1,16,[.pT],[]⟩,
 nH 106 171,
 nH 109 178,
 nH 112 198,
 ⟨115,.map 36 119,1,8,[.oM],[]⟩,
 ⟨117,.struct [(26,0),(105,2),(23,3),(24,35),(106,36),(109,37),(112,38),(115,39),(36,40)],56,112,[ze .u8,ze .u8,.pT,zg .u8 32,ze .u64,.iy,.iy,.iy,.oM,zg .u8 16],[]⟩,
 nH 119 125,
 nH 122 291,
 nH 123 303,
 ⟨125,.struct [(122,0),(123,1),(4,2),(4,3),(5,4),(24,5)],6,32,[.iy,.iy,zf,zf,ze .u8,ze .u64],[]⟩,
 ⟨133,.int .u64,1,8,[ze .u64],[]⟩,
 zP 134 37,
 nH 135 242,
 zP 138 23,
 zP 139 24,
 zP 141 4,
 nH 143 23,
 nH 145 24,
 nH 147 32,
 nH 149 41,
 nH 151 37,
 nH 153 42,
 nH 154 98,
 nH 156 5,
 nH 158 4,
 P6 159,
 nH 165 213,
 ⟨169,.map 26 165,1,8,[.oM],[]⟩,
 ⟨171,.struct [(29,0),(3,67),(169,68)],69,112,[ze .u8,ze .u8,zg .u8 32,zg .u8 32,.bW,ze .i64,.oM],[]⟩,
 nH 173 315,
 nH 175 276,
 nH 176 320,
 ⟨178,.struct [(26,0),(33,2),(173,10),(5,11),(36,12),(4,28),(5,29),(26,30),(23,32),(23,64),(23,96),(175,128),(176,129),(24,130),(24,131),(24,132),(24,133),(24,134),(39,135)],136,208,[ze .u8,ze .u8,zg .u8 8,.iy,ze .u8,zg .u8 16,zf,ze .u8,ze .u8,ze .u8,zg .u8 32,zg .u8 32,zg .u8 32,.iy,.iy,ze .u64,ze .u64,ze .u64,ze .u64,ze .u64,ze .u32],[]⟩,
 ⟨183,.map 36 191,1,8,[.oM],[]⟩,
 ⟨188,.struct [(36,0),(5,16),(4,17),(5,18),(24,19),(24,20),(24,21)],22,48,[zg .u8 16,ze .u8,zf,ze .u8,ze .u64,ze .u64,ze .u64],[(some .u8,17),(none,1),(some .u8,1),(some .u64,3)]⟩,
 ⟨191,.struct [],0,0,[],[]⟩,
 zP 193 188,
 ⟨195,.struct [(193,0),(3,1)],2,32,[.bW,ze .i64],[]⟩,
 nH 196 195,
 ⟨198,.struct [(196,0)],1,8,[.iy],[]⟩,
 ⟨202,.iface,1,16,[.pT],[]⟩,
 P6 204,
 ⟨207,.int .u16,1,2,[ze .u16],[]⟩,
 zP 209 211,
 nH 211 216,
 ⟨213,.struct [(209,0),(209,1),(211,2)],3,56,[.bW,.bW,.iy],[]⟩,
 nH 214 307,
 ⟨216,.struct [(214,0),(75,1),(4,67)],68,88,[.iy,zg .u8 32,zg .u8 32,zf,ze .u32,zf],[]⟩,
 P6 219,
 P6 222,
 P6 228,
 P6 235,
 zP 236 39,
 ⟨238,.arr 3 3,3,24,[zg .i64 3],[(some .i64,3)]⟩,
 ⟨240,.struct [(238,0),(238,3),(238,6),(238,9)],12,96,[zg .i64 3,zg .i64 3,zg .i64 3,zg .i64 3],[(some .i64,12)]⟩,
 ⟨242,.struct [(236,0),(236,1),(3,2),(240,3)],15,152,[.bW,.bW,ze .i64,zg .i64 3,zg .i64 3,zg .i64 3,zg .i64 3],[]⟩,
 ⟨245,.struct [(23,0),(39,32),(23,33)],65,68,[zg .u8 32,ze .u32,zg .u8 32],[(some .u8,32),(some .u32,1),(some .u8,32)]⟩,
 zP 246 143,
 zP 247 145,
 nH 249 29,
 nH 251 30,
 nH 252 68,
 nH 254 26,
 nH 256 66,
 P6 257,
 P6 258,
 nH 260 34,
 nH 261 36,
 P6 262,
 nH 264 38,
 P6 265,
 nH 267 39,
 zP 268 156,
 zP 269 158,
 ⟨276,.struct [(5,0),(37,1),(3,2)],3,40,[ze .u8,.bW,ze .i64],[]⟩,
 nH 279 345,
 ⟨287,.struct [(36,0),(24,16),(38,17)],18,48,[zg .u8 16,ze .u64,.bW],[]⟩,
 zP 288 418,
 zP 289 416,
 ⟨291,.struct [(202,0),(26,1),(4,3),(287,4),(288,22),(289,23)],24,120,[.pT,ze .u8,ze .u8,zf,zg .u8 16,ze .u64,.bW,.bW,.bW],[]⟩,
 nH 292 294,
 ⟨294,.struct [(204,0)],1,8,[.qK],[]⟩,
 ⟨295,.int .u8,1,1,[ze .u8],[]⟩,
 ⟨297,.struct [(295,0),(3,1),(3,2),(3,3),(3,4)],5,40,[ze .u8,ze .i64,ze .i64,ze .i64,ze .i64],[(some .u8,1),(some .i64,4)]⟩,
 ⟨300,.map 24 419,1,8,[.oM],[]⟩,
 nH 301 423,
 ⟨303,.struct [(122,0),(207,1),(3,2),(24,3),(301,4),(300,5)],6,48,[.iy,ze .u16,ze .i64,ze .u64,.iy,.oM],[]⟩,
 zP 304 209,
 ⟨307,.struct [(23,0),(23,32),(23,64),(23,96),(4,128),(70,129),(70,162),(4,195),(4,196),(39,197),(71,198),(4,199)],200,248,[zg .u8 32,zg .u8 32,zg .u8 32,zg .u8 32,zf,zg .u8 32,ze .u32,zg .u8 32,ze .u32,zf,zf,ze .u32,.bW,zf],[]⟩,
 ⟨315,.struct [(34,0),(3,1)],2,32,[.bW,ze .i64],[]⟩,
 ⟨320,.struct [(38,0),(3,1)],2,32,[.bW,ze .i64],[]⟩,
 nH 321 360,
 ⟨329,.arr 8 39,8,32,[zg .u32 8],[(some .u32,8)]⟩,
 nH 331 27,
 nH 332 93,
 P6 333,
 zP 334 254,
 nH 335 77,
 nH 337 73,
 zP 338 267,
 ⟨345,.struct [(37,0),(4,1)],2,32,[.bW,zf],[]⟩,
 ⟨347,.map 207 297,1,8,[.oM],[]⟩,
 ⟨350,.int .i64,1,8,[ze .i64],[]⟩,
 ⟨360,.struct [(37,0),(3,1),(4,2)],3,40,[.bW,ze .i64,zf],[]⟩,
 nH 368 70,
 nH 370 71,
 nH 371 245,
 P6 372,
 ⟨375,.int .u64,1,8,[ze .u64],[]⟩,
 nH 378 3,
 ⟨416,.struct [(36,0),(24,16),(26,17),(24,19),(9,20)],21,56,[zg .u8 16,ze .u64,ze .u8,ze .u8,ze .u64,.str []],[]⟩,
 ⟨418,.struct [(416,0),(24,21),(4,22)],23,72,[zg .u8 16,ze .u64,ze .u8,ze .u8,ze .u64,.str [],ze .u64,zf],[]⟩,
 nH 419 440]
theorem okT:bD ax8 TT=true:=by kernel_rfl
def Y1(P:Program):List (Nat×Func):=P.funcs.toList.zipIdx.map λx=>(x.2,x.1)
theorem qu.all{P:Program}(h:(P.funcs.toList.all λf=> !(f.name== "runtime.NumGoroutine"))=true):qu P (Y1 P):=by
 intro x hx;obtain⟨⟨f,i⟩,hy,rfl⟩:=ayg.1 hx;have h2:=axS.1 h f (List.fst_mem_of_mem_zipIdx hy);refine⟨?_,by simpa using h2⟩;have h3:=(List.mk_mem_zipIdx_iff_getElem?).1 hy;rw[<-h3];simp
noncomputable def FT:List (Nat×Func):=Y1 ax8
theorem JQ:qu ax8 FT:=qu.all (by kernel_rfl)
theorem okM:Tryz.prog.follows .mixedOrders=true:=by kernel_rfl
def bq(a b:List HP):Prop:= ∀(w:World) (Fs:List HP),aU (a++Fs) w->aU (b++Fs) w
theorem bq.refl(a:List HP):bq a a:=λ_ _ h=>h
theorem bq.trans{a b c:List HP}(h:bq a b)(k:bq b c):bq a c:=λw Fs o=>k w Fs (h w Fs o)
theorem Wi{α:Type}{a b:List α}(h:b.Sublist a): ∃f:Nat->Nat,(∀i j,f i=f j->i=j)/\∀(j:Nat) x,b[j]? =some x->a[f j]? =some x:=by
 induction h with
 | slnil=>exact⟨id,λ_ _ h=>h,λ_ _ h=>h⟩
 | cons x _ ih=>
  obtain⟨f,h1,h2⟩:=ih;exact⟨λj=>f j+1,λi j h=>h1 i j (by simpa using h),λj y hy=>by simpa using h2 j y hy⟩
 | cons_cons x _ ih=>
  obtain⟨f,h1,h2⟩:=ih;refine⟨λj=>match j with | 0=>0 | j+1=>f j+1,λi j h=>?_,λj y hy=>?_⟩
  .cases i<;>cases j<;>simp at h ⊢
   exact h1 _ _ h
  .cases j with
   | zero=>simpa using hy
   | succ j=>simpa using h2 j y (by simpa using hy)
theorem aU.sub{a b:List HP}{w:World}(h:aU a w)(hs:b.Sublist a):aU b w:=by
 obtain⟨f,h1,h2⟩:=Wi hs;refine h.vW (λj=>some (f j)) (λj x hx=> .inr ⟨f j,rfl,h2 j x hx⟩) ?_;intro j j' i hj eF _ _;cases hj;simp only[axU]at eF;exact h1 _ _ eF.symm
theorem bq.sub{a b:List HP}(h:b.Sublist a):bq a b:=λ_ _ o=>o.sub (List.Sublist.append h (List.Sublist.refl _))
theorem bq.put{a:List HP}(i:Nat)(h0 h':HP)(hi:a[i]? =some h0)(hw:h'.wr=true->h0.wr=true)(hp: ∀w S,h0.p w S->∃S':Nat->Prop,(∀k,S' k->S k)/\h'.p w S'):bq a (a.set i h'):=by
 intro w Fs ⟨S,hS⟩;have cC:i<a.length:=(axT.1 hi).1;obtain⟨S',h1,h2⟩:=hp _ _ (hS.at_ i h0 (by rw[axX cC];exact hi)).1;exact aU.weaken hS i h0 h' hi hw S' h1 h2
theorem ao.post{P:Program}{f:Nat}{args:List Value}{pre:List HP}{p q:Value->List HP->Prop}(h:ao P f args pre p)(hpq: ∀v hs,p v hs->∃lU,bq hs lU/\q v lU):ao P f args pre q:=by
 intro w Fs o;refine(h w Fs o).mono ?_;rintro e w' ⟨v,hs,he,hp,ho,lU⟩;obtain⟨zO,h1,h2⟩:=hpq v hs hp;exact⟨v,zO,he,h2,h1 _ _ ho,lU⟩
theorem ao.pre{P:Program}{f:Nat}{args:List Value}{pre Z0:List HP}{p:Value->List HP->Prop}(h:ao P f args Z0 p)(he:bq pre Z0):ao P f args pre p:=
 λw Fs o=>h w Fs (he _ _ o)
theorem Br{w:World}{t s n:Nat}{v:Value}{cs:List Value}{S:Nat->Prop}(h:(aA true t s v n cs).p w S):(aA false t s v n cs).p w (λk=>S k/\0<n):=by
 obtain⟨hv,hl⟩:=xW h;refine⟨by simp only[Bool.false_eq_true,if_false];exact⟨hl,hv⟩,λk=>?_⟩;show(S k/\0<n)↔_;rw[h.2 k];simp
theorem EN(k:IntKind)(n:Nat)(f:Nat->Int):aG n [ax k 1 f]=aj k n f:=by
 unfold aG aj
 induction n with
 | zero=>rfl
 | succ n ih=>
  rw[List.range_succ,List.flatMap_append,List.map_append,ih];simp[ax,aj]
theorem ao.bare{P:Program}{C:Ctx}(hT:bD P C.T=true)(CL:qu P C.FT)(hm:P.follows .mixedOrders=true){f:Nat}{fd:Func}(hf:P.funcs[f]? =some fd)(Q:Value->List HP->Prop)
  {g:F} {s:Prop} (e:oR C f [] [] {b:=0,v:=0,i:=0,a:=0,bo:=0,p:=0,r:=0} fd=g) (hv:VC P (λv _=>Q v []) g {iv:=[],av:=[],bo:=[],bv:=[],vv:=[]} (λ_=>LC.none)=s) (hs:s) (EL:im P C:=by exact im.none rfl):ao P f [] [] (λv hs=>Q v []/\hs=[]):=by
 subst e;subst hv;have:=ao.EM (al:=λv _=>Q v []) (ρ:={}) (args:=[]) (hp:=[]) hT CL hm hf (by constructor<;>rfl) hs EL;exact this.post λv hs h=>⟨[],bq.sub (List.nil_sublist _),h,rfl⟩
theorem ao.tn{P:Program}{C:Ctx}(hT:bD P C.T=true)(CL:qu P C.FT)(hm:P.follows .mixedOrders=true){f:Nat}{fd:Func}(hf:P.funcs[f]? =some fd){al:Value->List HP->Prop}{args:List SV}{hp:List Ck}{aY:cI}{ρ:Env}(hl:iZ ρ aY)
  {g:F} {s:Prop} (e:oR C f args hp aY fd=g) (hv:VC P al g ρ (λ_=>LC.none)=s) (hs:s) (EL:im P C:=by exact im.none rfl):ao P f (SV.bF ρ args) (hp.map (Ck.den ρ)) al:=by
 subst e;subst hv;exact ao.EM hT CL hm hf hl hs EL
theorem Q_{α:Type}{a b:List α}(h:a.Perm b): ∃f:Nat->Nat,(∀i j,f i=f j->i=j)/\∀(j:Nat) x,b[j]? =some x->a[f j]? =some x:=by
 induction h with
 | nil=>exact⟨id,λ_ _ h=>h,λ_ _ h=>h⟩
 | cons x _ ih=>
  obtain⟨f,h1,h2⟩:=ih;refine⟨λj=>match j with | 0=>0 | j+1=>f j+1,λi j h=>?_,λj y hy=>?_⟩
  .cases i<;>cases j<;>simp at h ⊢
   exact h1 _ _ h
  .cases j with
   | zero=>simpa using hy
   | succ j=>simpa using h2 j y (by simpa using hy)
 | swap x y l=>
  refine⟨λj=>match j with | 0=>1 | 1=>0 | j+2=>j+2,λi j h=>?_,λj z hz=>?_⟩
  .match i,j,h with
   | 0,0,_=>rfl
   | 1,1,_=>rfl
   | 0,1,h=>simp at h
   | 1,0,h=>simp at h
   | 0,j+2,h=>simp at h
   | 1,j+2,h=>simp at h
   | i+2,0,h=>simp at h
   | i+2,1,h=>simp at h
   | i+2,j+2,h=>simpa using h
  .match j,hz with
   | 0,hz=>simpa using hz
   | 1,hz=>simpa using hz
   | j+2,hz=>simpa using hz
 | trans _ _ ih1 ih2=>
  obtain⟨f,f1,f2⟩:=ih1;obtain⟨g,g1,g2⟩:=ih2;exact⟨λj=>f (g j),λi j h=>g1 _ _ (f1 _ _ h),λj x hx=>f2 _ _ (g2 _ _ hx)⟩
theorem aU.perm{a b:List HP}{w:World}(h:aU a w)(hp:a.Perm b):aU b w:=by
 obtain⟨f,h1,h2⟩:=Q_ hp;refine h.vW (λj=>some (f j)) (λj x hx=> .inr ⟨f j,rfl,h2 j x hx⟩) ?_;intro j j' i hj eF _ _;cases hj;simp only[axU]at eF;exact h1 _ _ eF.symm
theorem bq.perm{a b:List HP}(h:a.Perm b):bq a b:=λ_ _ o=>o.perm (h.append_right _)
theorem bq.frame{a b:List HP}(h:bq a b)(r:List HP):bq (a++r) (b++r):=λw Fs o=>by
 rw[ayl]at o ⊢;exact h w (r++Fs) o
theorem ao.frame{P:Program}{f:Nat}{args:List Value}{pre:List HP}{post:Value->List HP->Prop}(h:ao P f args pre post)(r:List HP):
  ao P f args (pre++r) λv hs=> ∃zF,hs=zF++r/\post v zF:=by
 intro w Fs o;rw[ayl]at o;refine(h w (r++Fs) o).mono ?_;rintro e w' ⟨v,hs,he,hp,ho,lU⟩;exact⟨v,hs++r,he,⟨hs,rfl,hp⟩,by rw[ayl];exact ho,lU⟩
def HP.star(l:List HP):HP where
 wr:=true
 p w S:= ∃T,Sep l T w/\∀k,S k↔∃i,i<l.length/\T i k
 eU w w' S h hk:=by
  obtain⟨T,hT,hS⟩:=h;refine⟨T,⟨λi x hx=>?_,hT.apart⟩,hS⟩;have cC:i<l.length:=(axT.1 hx).1;obtain⟨hp,hb⟩:=hT.at_ i x hx;refine⟨x.eU w w' _ hp λk kX=>hk k ((hS k).2 ⟨i,cC,kX⟩),λk kX=>?_⟩;have:=hk k ((hS k).2 ⟨i,cC,kX⟩);have jR:=hb k kX;rw[Array.getElem?_eq_getElem jR]at this;exact(ax1.1 this).1
theorem bq.Ra(l:List HP):bq [HP.star l] l:=by
 intro w Fs ⟨S,hS⟩;obtain⟨⟨T,hT,hTS⟩,hb⟩:=hS.at_ 0 (HP.star l) rfl;refine⟨λi=>if i<l.length then T i else S (i - l.length+1),⟨?_,?_⟩⟩
 .intro i x hx;by_cases hi:i<l.length
  .rw [axX hi]at hx;simp only[hi,if_true];exact hT.at_ i x hx
  .rw [axY (by omega)]at hx;simp only[hi,if_false];exact hS.at_ (i - l.length+1) x (by simpa using hx)
 .intro i j x y fL hx hy hw k;by_cases hi:i<l.length<;>by_cases hj:j<l.length
  .rw [axX hi]at hx;rw[axX hj]at hy;simp only[hi,hj,if_true];exact hT.apart i j x y fL hx hy hw k
  .rw [axY (by omega)]at hy;simp only[hi,hj,if_true,if_false];intro h1;exact hS.apart 0 (j - l.length+1) (HP.star l) y (by omega) rfl (by simpa using hy) (.inl rfl) k ((hTS k).2 ⟨i,hi,h1⟩)
  .rw [axY (by omega)]at hx;simp only[hi,hj,if_true,if_false];intro h1 h2;exact hS.apart 0 (i - l.length+1) (HP.star l) x (by omega) rfl (by simpa using hx) (.inl rfl) k ((hTS k).2 ⟨j,hj,h2⟩) h1
  .rw [axY (by omega)]at hx hy;simp only[hi,hj,if_false];exact hS.apart (i - l.length+1) (j - l.length+1) x y (by omega) (by simpa using hx) (by simpa using hy) hw k
theorem bq.star{l:List HP}(hw: ∀h∈l,h.wr=true):bq l [HP.star l]:=by
 intro w Fs ⟨S,hS⟩;refine⟨λi=>if i=0 then λk=> ∃j,j<l.length/\S j k else S (i - 1+l.length),⟨?_,?_⟩⟩
 .intro i x hx;by_cases hi:i=0
  .subst hi;simp at hx;subst hx;simp only[if_true];refine⟨⟨S,⟨λi x hx=>?_,λi j x y fL hx hy=>?_⟩,λk=>Iff.rfl⟩,?_⟩
   .exact hS.at_ i x (by rw[axX (axT.1 hx).1];exact hx)
   .exact hS.apart i j x y fL (by rw[axX (axT.1 hx).1];exact hx) (by rw[axX (axT.1 hy).1];exact hy)
   .rintro k ⟨j,hj,hk⟩;exact(hS.at_ j (l[j]'hj) (by rw[axX hj];exact ays hj)).2 k hk
  .have e:i=(i - 1)+1:=by omega
   rw[e]at hx;simp only[hi,if_false];exact hS.at_ (i - 1+l.length) x (by rw[axY (by omega),show i - 1+l.length - l.length=i - 1 by omega];simpa using hx)
 .have key: ∀(i:Nat) (x:HP),i≠0->([HP.star l]++Fs)[i]? =some x->(l++Fs)[i - 1+l.length]? =some x:=by
   intro i x hi hx;have e:i=(i - 1)+1:=by omega
   rw[e]at hx;rw[axY (by omega),show i - 1+l.length - l.length=i - 1 by omega];simpa using hx
  have Y2: ∀(j:Nat) (y:HP) (k:Nat),j≠0->([HP.star l]++Fs)[j]? =some y->(∃m,m<l.length/\S m k)->¬S (j - 1+l.length) k:=by
   rintro j y k hj hy ⟨m,hm,hk⟩;exact hS.apart m (j - 1+l.length) (l[m]'hm) y (by omega) (by rw[axX hm];exact ays hm) (key j y hj hy) (.inl (hw _ (List.getElem_mem hm))) k hk
  intro i j x y fL hx hy vn k;by_cases hi:i=0<;>by_cases hj:j=0
  .omega
  .simp only[hi,hj,if_true,if_false];exact Y2 j y k hj hy
  .simp only[hi,hj,if_true,if_false];exact λh1 h2=>Y2 i x k hi hx h2 h1
  .simp only[hi,hj,if_false];exact hS.apart _ _ x y (by omega) (key i x hi hx) (key j y hj hy) vn k
def HP.ex{α:Type}(F:α->HP):HP where
 wr:=true
 p w S:= ∃a,(F a).p w S
 eU w w' S h hk:=by
  obtain⟨a,ha⟩:=h;exact⟨a,(F a).eU w w' S ha hk⟩
theorem bq.ex{α:Type}{F:α->HP}(a:α)(hw:(F a).wr=true):bq [F a] [HP.ex F]:=by
 have:=bq.put (a:=[F a]) 0 (F a) (HP.ex F) rfl (λ_=>hw) λw S h=>⟨S,λ_ h=>h,⟨a,h⟩⟩
 simpa using this
theorem ao.ex{α:Type}{F:α->HP}{P:Program}{f:Nat}{args:List Value}{R:List HP}{post:Value->List HP->Prop}(h: ∀a,ao P f args (F a::R) post):ao P f args (HP.ex F::R) post:=by
 intro w Fs ⟨S,hS⟩;obtain⟨⟨a,ha⟩,hb⟩:=hS.at_ 0 (HP.ex F) rfl;refine h a w Fs ⟨S,⟨λi x hx=>?_,λi j x y fL hx hy hw=>?_⟩⟩
 .match i,hx with
  | 0,hx=>simp at hx;subst hx;exact⟨ha,hb⟩
  | i+1,hx=>exact hS.at_ (i+1) x (by simpa using hx)
 .match i,j,fL,hx,hy with
  | 0,0,fL,_,_=>exact absurd rfl fL
  | 0,j+1,_,_,hy=>exact hS.apart 0 (j+1) (HP.ex F) y (by omega) rfl (by simpa using hy) (.inl rfl)
  | i+1,0,_,hx,_=>exact hS.apart (i+1) 0 x (HP.ex F) (by omega) (by simpa using hx) rfl (.inr rfl)
  | i+1,j+1,fL,hx,hy=>exact hS.apart (i+1) (j+1) x y fL (by simpa using hx) (by simpa using hy) hw
def E.closed(e:E):Bool:=e.sc {}
def cI.only(c:cI):Bool:=c.i==0&&c.a==0&&c.bo==0&&c.p==0&&c.r==0
def SV.same:SV->SV->Bool
 | .int k (.lit n),.int k' (.lit m)=>k==k'&&n==m
 | .bool (.lit a),.bool (.lit b)=>a==b
 | .str l,.str l'=>l==l'
 | .agg a,.agg b=>fh (iI a) (iI b)
 | .oH [a,b],.oH [c,d]=>SV.same a c&&SV.same b d
 | _,_=>false
theorem SV.Rb(ρ:Env): ∀{u v:SV},SV.same u v=true->u.val ρ=v.val ρ:=by
 intro u v
 induction u,v using SV.same.induct with
 | case1 k n k' m=>intro h;simp only[SV.same,ai,beq_iff_eq]at h;rw[h.1,h.2]
 | case2 a b=>intro h;simp only[SV.same,beq_iff_eq]at h;rw[h]
 | case3 l l'=>intro h;simp only[SV.same,beq_iff_eq]at h;rw[h]
 | case4 a b=>
  intro h;simp only[SV.same]at h;have:=cz (ρ:=ρ) h;rw[gS,gS]at this;simp only[SV.val,this]
 | case5 a b c d ih1 ih2=>
  intro h;simp only[SV.same,ai]at h;simp only[SV.val,SV.bF,ih1 h.1,ih2 h.2]
 | case6 u v h1 h2 h3 h4 h5=>
  intro h;unfold SV.same at h;split at h
  .exact(h1 _ _ _ _ rfl rfl).elim
  .exact(h2 _ _ rfl rfl).elim
  .exact(h3 _ _ rfl rfl).elim
  .exact(h4 _ _ rfl rfl).elim
  .exact(h5 _ _ _ _ rfl rfl).elim
  .cases h
def F.cP(v:SV):F->Bool
 | .vc b r=>b.sure&&r.cP v
 | .fork c t e=>match c.uO with
  | some true=>t.cP v
  | some false=>e.cP v
  | none=>t.cP v&&e.cP v
 | .ret u _=>u.same v
 | .Eh r=>r.cP v
 | .xw r=>r.cP v
 | .Js r=>r.cP v
 | .qP _ r=>r.cP v
 | .both a b=>a.cP v&&b.cP v
 | _=>false
theorem F.N7{P:Program}{f:F}{v:SV}(x:Value)(hx: ∀ρ,v.val ρ=x)(ρ:Env)(L:Nat->LC)(h:f.cP v=true):VC P (λu _=>u=x) f ρ L:=by
 induction f generalizing ρ L with
 | vc b r ih=>
  simp only[F.cP,ai]at h;exact⟨(BE.bY ρ b).1 (xX h.1 ρ),λ_=>ih ρ L h.2⟩
 | fork c t e I6 I7=>
  simp only[F.cP]at h;split at h
  .rename_i hc;unfold BE.uO at hc;split at hc
   .rename_i hs;simp only[axU]at hc;exact⟨λ_=>I6 ρ L h,λhn=>absurd ((BE.bY ρ c).1 (by rw[mo hs];exact hc)) hn⟩
   .cases hc
  .rename_i hc;unfold BE.uO at hc;split at hc
   .rename_i hs;simp only[axU]at hc;refine⟨λhn=>?_,λ_=>I7 ρ L h⟩;have:=(BE.bY ρ c).2 hn;rw[mo hs,hc]at this;cases this
   .cases hc
  .simp only[ai]at h;exact⟨λ_=>I6 ρ L h.1,λ_=>I7 ρ L h.2⟩
 | ret u hp=>simp only[F.cP]at h;simp only[VC,SV.Rb ρ h,hx]
 | Eh r ih=>exact λ_=>ih _ L h
 | xw r ih=>exact λ_=>ih _ L h
 | Js r ih=>exact ih _ L h
 | qP b r ih=>cases b with
  | true=>exact λ_ _ _=>ih _ L h
  | false=>exact λ_ _=>ih _ L h
 | fail=>simp[F.cP]at h
 | call=>simp[F.cP]at h
 | ext=>simp[F.cP]at h
 | loop=>simp[F.cP]at h
 | back=>simp[F.cP]at h
 | join=>simp[F.cP]at h
 | meet=>simp[F.cP]at h
 | ghost=>simp[F.cP]at h
 | both a b mU rR=>
  simp only[F.cP,ai]at h;exact⟨mU ρ L h.1,rR ρ L h.2⟩
theorem ao.cP{P:Program}{C:Ctx}(hT:bD P C.T=true)(CL:qu P C.FT)(hm:P.follows .mixedOrders=true){f:Nat}{fd:Func}(hf:P.funcs[f]? =some fd){args:List SV}{v:SV}(x:Value)(hx: ∀ρ,v.val ρ=x)
  (h:(oR C f args [] {} fd).cP v=true) (EL:im P C):ao P f (SV.bF Bq args) [] (λu hs=>u=x/\hs=[]):=by
 have:=ao.EM (al:=λu _=>u=x) (ρ:=Bq) (args:=args) (hp:=[]) (aY:={}) hT CL hm hf (by constructor<;>rfl) (F.N7 x hx Bq _ h) EL;exact this.post λv hs h=>⟨[],bq.sub (List.nil_sublist _),h,rfl⟩
def xY(a:Nat->Int)(n:Int):Nat->Int:=au (bV (λ_=>0) 1 (ag n) a) 0 n
theorem N9(a:Nat->Int)(n:Int):eB (xY a n)=(List.range n.toNat).map λj=>UInt8.ofNat (a j).toNat:=by
 have:=uy {av:=[a],iv:=[n]} (.cM 0) (.var 0);exact this
end Go.RX
