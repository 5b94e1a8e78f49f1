/- Executor. -/
import Derived.Test.YtllcdnkfbeokhaaGreatRxU
open Bool renaming and_eq_true -> ai
open Int renaming toNat -> ag
open List renaming all_eq_true -> axS, flatMap_cons -> ayn, getElem?_append_left -> axX, getElem?_append_right -> axY, getElem?_eq_getElem -> ays, getElem?_eq_some_iff -> axT, getElem?_set_ne -> ayq, length_map -> ayd, mem_of_getElem? -> ayh, mem_or_eq_of_mem_set -> ayy
open Nat renaming blt_eq -> ayb
open Option renaming getD_some -> ayG, map_eq_some_iff -> axV
open Option.some renaming injEq -> axU
open Prod.mk renaming injEq -> ayz
namespace Go.RX
section
variable {P:Program} {C:Ctx} {al:Value->List HP->Prop} {Fs:List HP} {w0:World} {ρ:Env} {a:Act} {w:World}
theorem Env.FO(ρ:Env)(b:Nat):Env.Le ρ (ρ.oN b):=by rw[Env.V3];exact Env.jo _ _
theorem Env.mC(ρ:Env)(v:V1):Env.Le ρ (ρ.jM v):=by rw[Env.V4];exact Env.jo _ _
theorem iZ.oN{c:cI}(h:iZ ρ c)(b:Nat):iZ (ρ.oN b) {c with b:=c.b+1}:=
 ⟨by simp[Env.oN,h.b],h.v,h.i,h.a,h.bo,h.p,h.r⟩
theorem iZ.jM{c:cI}(h:iZ ρ c)(v:V1):iZ (ρ.jM v) {c with v:=c.v+1}:=
 ⟨h.b,by simp[Env.jM,h.v],h.i,h.a,h.bo,h.p,h.r⟩
theorem fX(ρ:Env)(v:V1){n:Nat}(h:ρ.vv.length=n):(ρ.jM v).vv.getD n V1.nil=v:=by
 subst h;simp[Env.jM]
theorem jK(ρ:Env)(b:Nat){n:Nat}(h:ρ.bv.length=n):(ρ.oN b).bv.getD n 0=b:=by
 subst h;simp[Env.oN]
theorem vi{ρ:Env}: ∀{cs:List SV} {j:Nat} {x y:SV},cs[j]? =some x->SV.cells ρ y=SV.cells ρ x->SV.aq ρ (cs.set j y)=SV.aq ρ cs
 | [],j,x,y,h,_=>by simp at h
 | c::cs,0,x,y,h,e=>by
  simp only[List.getElem?_cons_zero,axU]at h;subst h;simp only[List.set_cons_zero,SV.aq,e]
 | c::cs,j+1,x,y,h,e=>by
  simp only[List.getElem?_cons_succ]at h;simp only[List.set_cons_succ,SV.aq,vi h e]
theorem FP{c:cI}: ∀{cs:List SV} {j:Nat} {y:SV},SV.rF c cs=true->y.sc c=true->SV.rF c (cs.set j y)=true
 | [],j,y,h,_=>by simpa using h
 | x::cs,0,y,h,e=>by
  simp only[SV.rF,ai]at h;simp only[List.set_cons_zero,SV.rF,ai];exact⟨e,h.2⟩
 | x::cs,j+1,y,h,e=>by
  simp only[SV.rF,ai]at h;simp only[List.set_cons_succ,SV.rF,ai];exact⟨h.1,FP h.2 e⟩
theorem HW.CA{st:St}{bG:Env}(h:HW Fs w0 st ρ w)(hle:Env.Le ρ bG):aU (st.hp.map (Ck.den bG)++Fs) w:=by
 rw[<-mZ (Env.Le.fP h.lens hle) h.iu];exact h.own
theorem zu{T:List TI}{st ei:St}{t:Nat}(hg:M6 T st t=some ei)(h:HW Fs w0 st ρ w):
  HW Fs w0 ei (ρ.jM ⟨.slice none 0 0,rfl⟩) w/\ei.fr=st.fr/\ei.nt=st.nt/\ei.fn=st.fn/\ei.aY={st.aY with v:=st.aY.v+1}/\∃ck,ei.hp=st.hp++[ck]:=by
 unfold M6 at hg;split at hg
 .rename_i ti aB dZ g_;split at hg
  .rename_i kS;cases hg;have hle:=Env.mC ρ ⟨.slice none 0 0,rfl⟩;have fO:st.aY.le {st.aY with v:=st.aY.v+1}:=by constructor<;>simp
   refine⟨⟨h.lens.jM _,dz fO h.m7,?_,ik fO h.qF,λb hb=>?_,?_,h.same,ey fO h.oq⟩,rfl,rfl,rfl,rfl,_,rfl⟩
   .rw [List.all_append,ai];refine⟨ky fO h.iu,?_⟩;simp only[List.all_cons,List.all_nil,Ck.sc,E.sc,Bool.and_true,ai,ayb];exact⟨Nat.lt_succ_self _,lp fO kS⟩
   .exact(BE.jV (Env.Le.fP h.lens hle) (axS.1 h.qF b hb)).1 (h.kn b hb)
   .rw [List.map_append];refine aU.add (h.CA hle) _ (λ_=>False) (Nat.le_refl _) (λ_ _=>rfl) ?_ (λ_ hk=>hk.elim);simp only[Ck.den,fX ρ _ h.lens.v];refine⟨?_,λk=>by simp[Value.ownBlock]⟩;simp only[if_true];exact qN w t ti.size
  .cases hg
 .cases hg
theorem aU.weaken{a b:List HP}{w:World}{S:Nat->Nat->Prop}(h:Sep (a++b) S w)(i:Nat)(h0 h':HP)(hi:a[i]? =some h0)(hw:h'.wr=true->h0.wr=true)
  (S':Nat->Prop) (fx: ∀k,S' k->S i k) (hp:h'.p w S'):aU (a.set i h'++b) w:=by
 have cC:i<a.length:=(axT.1 hi).1;have cj:(a++b)[i]? =some h0:=by rw[axX cC];exact hi
 have hold: ∀(j:Nat) x,(a.set i h'++b)[j]? =some x->∃y,(a++b)[j]? =some y/\(x.wr=true->y.wr=true)/\(j≠i->x=y)/\(j=i->x=h'):=by
  intro j x hx;by_cases hj:j=i
  .subst hj;rw[axX (by simpa using cC),List.getElem?_set_self cC]at hx;cases hx;exact⟨h0,cj,hw,λh=>absurd rfl h,λ_=>rfl⟩
  .refine⟨x,?_,id,λ_=>rfl,λh=>absurd h hj⟩;by_cases hja:j<a.length
   .rw [axX (by simpa using hja),ayq (Ne.symm hj)]at hx;rw[axX hja];exact hx
   .rw [axY (by simp;omega),List.length_set]at hx;rw[axY (by omega)];exact hx
 have UY: ∀j k,(if j=i then S' k else S j k)->S j k:=by
  intro j k hk;split at hk
  .rename_i hj;subst hj;exact fx k hk
  .exact hk
 refine⟨λj k=>if j=i then S' k else S j k,⟨λj x hx=>?_,λj k x y fL hx hy vn q h1 h2=>?_⟩⟩
 .obtain⟨y,hy,_,h1,h2⟩:=hold j x hx;obtain⟨hpy,hb⟩:=h.at_ j y hy;refine⟨?_,λk hk=>hb k (UY j k hk)⟩;by_cases hj:j=i
  .subst hj;rw[h2 rfl];simp only[if_true];exact hp
  .rw [h1 hj];simp only[hj,if_false];exact hpy
 .obtain⟨x',Xh,wx,_,_⟩:=hold j x hx;obtain⟨y',hy',wy,_,_⟩:=hold k y hy;exact h.apart j k x' y' fL Xh hy' (vn.imp wx wy) q (UY j q h1) (UY k q h2)
theorem px{st ei:St}{x:SV}{ty:Nat}{wr:Co}(hg:ZK st x ty=some (ei,wr))(_:HW Fs w0 st ρ w):
  ∃vcs lV,wr= .cut vcs/\HW Fs w0 ei (ρ.jM ⟨x.val ρ,lV⟩) w/\ei.fr=st.fr/\ei.nt=st.nt/\ei.fn=st.fn/\ei.aY={st.aY with v:=st.aY.v+1}:=by
 cases (show(none:Option _)=some _ from hg)
theorem PM{T:List TI}{st ei:St}{x:um}(hg:eZ T st x=some (ei,.nil))(h:HW Fs w0 st ρ w)(ha:HA st.fr st.nt ρ a):
  HW Fs w0 ei (ρ.jM ⟨.slice none 0 0,rfl⟩) w/\HA ei.fr ei.nt (ρ.jM ⟨.slice none 0 0,rfl⟩) a/\ei.nt=st.nt/\ei.fn=st.fn:=by
 have hle:=Env.mC ρ ⟨.slice none 0 0,rfl⟩;have gp:=Env.Le.fP h.lens hle;have xS:=ha.more h.m7 h.oq gp;cases x with
 | slot s t=>
  simp only[eZ]at hg;split at hg
  .rename_i hl;rw[axV]at hg;obtain⟨s1,lZ,Jj⟩:=hg;cases Jj;obtain⟨h1,e1,e2,e3,e4,ck,e5⟩:=zu lZ h;have hv:(SV.vv st.aY.v).sc s1.aY=true:=by rw[e4];simp[SV.sc]
   refine⟨h1.put hv,⟨by rw[(ft _ _ _).2.2.2.1,e2];exact xS.defers,by rw[(ft _ _ _).2.2.2.1,e2];exact ha.size,λq v hq=>?_⟩,by rw[(ft _ _ _).2.2.2.1,e2],by rw[(ft _ _ _).2.2.2.2,e3]⟩;simp only[St.put]at hq;unfold look at hq;split at hq
   .rename_i Nd;rw[beq_iff_eq]at Nd;subst Nd;cases hq;rw[ha.aQ _ _ hl];simp only[SV.val,fX ρ _ h.lens.v]
   .rename_i Nd;rw[pr s _ q (λe=>Nd (by simp[e])),e1]at hq;exact xS.aQ q v hq
  .cases hg
 | cell i j t=>
  simp only[eZ]at hg;split at hg
  .rename_i b wr cs hi;split at hg
   .rename_i hj;rw[axV]at hg;obtain⟨s1,lZ,Jj⟩:=hg;cases Jj;obtain⟨h1,e1,e2,e3,e4,ck,e5⟩:=zu lZ h;have hv:(SV.vv st.aY.v).sc s1.aY=true:=by rw[e4];simp[SV.sc]
    have cj:s1.hp[i]? =some (.row b wr cs):=by
     rw[e5,axX (axT.1 hi).1];exact hi
    have Lf:=axS.1 h1.iu _ (ayh cj);simp only[Ck.sc,ai]at Lf;have EG:(Ck.row b wr (cs.set j (.vv st.aY.v))).den (ρ.jM ⟨.slice none 0 0,rfl⟩)=(Ck.row b wr cs).den (ρ.jM ⟨.slice none 0 0,rfl⟩):=by
     simp only[Ck.den];rw[vi hj];simp only[SV.cells,fX ρ _ h.lens.v]
    have UZ:(s1.hp.set i (.row b wr (cs.set j (.vv st.aY.v)))).map (Ck.den (ρ.jM ⟨.slice none 0 0,rfl⟩))=s1.hp.map (Ck.den (ρ.jM ⟨.slice none 0 0,rfl⟩)):=by
     rw[List.map_set,EG];apply List.ext_getElem?;intro q;rw[List.getElem?_set];split
     .rename_i hq;subst hq;split
      .rw [List.getElem?_map,cj];rfl
      .rename_i cC;rw[List.getElem?_eq_none (by omega)]
     .rfl
    refine⟨⟨h1.lens,h1.m7,?_,h1.qF,h1.kn,by rw[UZ];exact h1.own,h1.same,h1.oq⟩,⟨by rw[e2];exact xS.defers,by rw[e2];exact ha.size,by rw[e1];exact xS.aQ⟩,e2,e3⟩;refine axS.2 λq hq=>?_
    rcases ayy hq with hq | rfl
    .exact axS.1 h1.iu q hq
    .simp only[Ck.sc,ai];exact⟨Lf.1,FP Lf.2 hv⟩
   .cases hg
  .cases hg
 | cut s md=>
  simp only[eZ]at hg;split at hg
  .rw [axV]at hg;obtain⟨y,hy,he⟩:=hg;exfalso;unfold Cp at hy;split at hy
   .split at hy
    .split at hy
     .cases hy;cases he
     .cases hy
    .cases hy
   .cases hy
  .cases hg
 | own s t=>
  simp only[eZ]at hg;split at hg
  .rw [axV]at hg;obtain⟨y,hy,he⟩:=hg;exfalso;obtain⟨_,_,hw,_⟩:=px (wr:=y.2) (ei:=y.1) hy h;simp only[ayz]at he;rw[he.2]at hw;cases hw
  .cases hg
 | rh i j md=>
  simp only[eZ]at hg;split at hg
  .split at hg
   .split at hg
    .rename_i nP wr1 hy;exfalso;have:wr1≠ .nil:=by
      unfold Cp at hy;split at hy
      .split at hy
       .split at hy
        .cases hy;simp
        .cases hy
       .cases hy
      .cases hy
     split at hg
     .split at hg
      .simp only[axU,ayz]at hg;exact this hg.2
      .cases hg
     .cases hg
    .cases hg
   .cases hg
  .cases hg
 | marks=>simp[eZ]at hg
 | mark=>
  simp only[eZ]at hg;split at hg
  .split at hg
   .simp at hg
   .cases hg
  .simp at hg
  .cases hg
 | swap s i=>
  simp only[eZ]at hg;split at hg
  .simp at hg
  .cases hg
theorem aU.I1{a b:List HP}{w:World}{i j k:Nat}{l:List Nat}(h:aU (a++b) w)(hi:a[i]? =some (Az k))(hj:a[j]? =some (mV l))(oJ:i≠j):
  aU ((a.set i HP.emp).set j (mV (k::l))++b) w:=by
 obtain⟨S,hS⟩:=h;have xQ:i<a.length:=(axT.1 hi).1;have hjl:j<a.length:=(axT.1 hj).1;have Qi:(a++b)[i]? =some (Az k):=by rw[axX xQ];exact hi
 have hj2:(a++b)[j]? =some (mV l):=by rw[axX hjl];exact hj
 obtain⟨⟨p1,p2⟩,p3⟩:=hS.at_ i _ Qi;obtain⟨⟨q1,q2,q3⟩,q4⟩:=hS.at_ j _ hj2;have Ny:w.heap[k]? =some (.deferred (some [])):=p2;have hap: ∀x,S i x->¬S j x:=hS.apart i j _ _ oJ Qi hj2 (.inl rfl);have old: ∀(m:Nat) x,((a.set i HP.emp).set j (mV (k::l))++b)[m]? =some x->(m=i/\x=HP.emp)\/(m=j/\x=mV (k::l))\/(m≠i/\m≠j/\(a++b)[m]? =some x):=by
  intro m x hx;by_cases hma:m<a.length
  .rw [axX (by simpa using hma)]at hx;by_cases hmj:m=j
   .subst hmj;rw[List.getElem?_set_self (by simpa using hma)]at hx;cases hx;exact .inr (.inl ⟨rfl,rfl⟩)
   .rw [ayq (Ne.symm hmj)]at hx;by_cases Lw:m=i
    .subst Lw;rw[List.getElem?_set_self hma]at hx;cases hx;exact .inl ⟨rfl,rfl⟩
    .rw [ayq (Ne.symm Lw)]at hx;exact .inr (.inr ⟨Lw,hmj,by rw[axX hma];exact hx⟩)
  .rw [axY (by simp;omega)]at hx;simp only[List.length_set]at hx;exact .inr (.inr ⟨by omega,by omega,by rw[axY (by omega)];exact hx⟩)
 refine⟨λm x=>if m=i then False else if m=j then S i x\/S j x else S m x,⟨λm x hx=>?_,λm n x y zK hx hy vn z h1 h2=>?_⟩⟩
 .rcases old m x hx with⟨rfl,rfl⟩ | ⟨rfl,rfl⟩ | ⟨h1,h2,h3⟩
  .simp only[if_true];exact⟨λ_ h=>h,λ_ h=>h.elim⟩
  .simp only[Ne.symm oJ,if_false,if_true];refine⟨⟨λx=>?_,?_,λb hb=>?_⟩,λx hx=>hx.elim (p3 x) (q4 x)⟩
   .simp only[p1,q1,List.mem_cons]
   .exact List.nodup_cons.2 ⟨λhk=>hap k ((p1 k).2 rfl) ((q1 k).2 hk),q2⟩
   .rcases List.mem_cons.1 hb with rfl | hb
    .exact Ny
    .exact q3 b hb
  .simp only[h1,h2,if_false];exact hS.at_ m x h3
 .rcases old m x hx with⟨rfl,rfl⟩ | ⟨rfl,rfl⟩ | ⟨h3,h4,h5⟩
  .simp only[if_true]at h1
  .simp only[Ne.symm oJ,if_false,if_true]at h1;rcases old n y hy with⟨rfl,rfl⟩ | ⟨rfl,rfl⟩ | ⟨h6,h7,h8⟩
   .simp only[if_true]at h2
   .exact zK rfl
   .simp only[h6,h7,if_false]at h2;exact h1.elim (λh1=>hS.apart i n _ _ (Ne.symm h6) Qi h8 (.inl rfl) z h1 h2) (λh1=>hS.apart m n _ _ (Ne.symm h7) hj2 h8 (.inl rfl) z h1 h2)
  .simp only[h3,h4,if_false]at h1;rcases old n y hy with⟨rfl,rfl⟩ | ⟨rfl,rfl⟩ | ⟨h6,h7,h8⟩
   .simp only[if_true]at h2
   .simp only[Ne.symm oJ,if_false,if_true]at h2;exact h2.elim (λh2=>hS.apart m i _ _ h3 h5 Qi (.inr rfl) z h1 h2) (λh2=>hS.apart m n _ _ h4 h5 hj2 (.inr rfl) z h1 h2)
   .simp only[h6,h7,if_false]at h2;exact hS.apart m n _ _ zK h5 h8 vn z h1 h2
theorem PN{s:Nat}{v x:Value}{n:E}{p:Part}{cs:List Value}(h:oh ρ s v x n p)(hv:World.views w v (n.den ρ 0).toNat cs):
  World.views w x (p.len.den ρ 0).toNat ((cs.drop ((p.lo.den ρ 0).toNat*s)).take ((p.len.den ρ 0).toNat*s)):=by
 obtain⟨h1,h2,h3,a,c,k,rfl,hc,rfl,hk⟩:=h;obtain⟨a',m,c',he,rfl,VM,lD,hr⟩:=hv;cases he;have NM:(p.lo.den ρ 0).toNat+(p.len.den ρ 0).toNat<=((p.mx.map λm=>m.den ρ 0).map ag).getD c\/(p.len.den ρ 0).toNat=0:=by
  cases hm:(p.mx.map λm=>m.den ρ 0)with
  | none=>simp only[Option.map_none,Option.getD_none];omega
  | some m=>have:=h3 m hm;simp only[Option.map_some,ayG];omega
 refine⟨_,_,_,rfl,rfl,by omega,?_,?_⟩
 .intro hn;cases a with
  | none=>have:=lD rfl;omega
  | some a=>cases hn
 .intro ad had;rw[axV]at had;obtain⟨a0,rfl,rfl⟩:=had;obtain⟨hs,mG⟩:=hr a0 rfl;refine⟨λ_=>PK _ _ (hs (by omega)),λj u hu=>?_⟩;rw[List.getElem?_take]at hu;split at hu
  .rename_i hj;have hN:(p.len.den ρ 0).toNat≠0:=by intro h;rw[h,Nat.zero_mul]at hj;omega
   rw[List.getElem?_drop]at hu;rw[hk (.inl (by omega)),dS];exact mG _ _ hu
  .cases hu
theorem PO{s:Nat}{v x:Value}{n:E}{p:Part}(h:oh ρ s v x n p):x.ownBlock=v.ownBlock:=by
 obtain⟨h1,h2,h3,a,c,k,rfl,hc,rfl,hk⟩:=h;cases a with
 | none=>rfl
 | some a=>
  simp only[Option.map_some,Value.ownBlock,Addr.add];split<;>rfl
theorem lA{st ei:St}{x:SV}{md:Bool}{wr:Co}(hg:Cp st x md=some (ei,wr))(h:HW Fs w0 st ρ w):
  ∃vcs lV,wr= .cut vcs/\((∀b∈vcs,b.prop ρ)->HW Fs w0 ei (ρ.jM ⟨x.val ρ,lV⟩) w)/\ei.fr=st.fr/\ei.nt=st.nt/\ei.fn=st.fn/\ei.aY={st.aY with v:=st.aY.v+1}/\
   ∃j md0 v0 t s n aB ck,st.hp[j]? =some (.cF md0 v0 t s n aB)/\ei.hp=st.hp.set j ck:=by
 unfold Cp at hg;split at hg
 .rename_i r hr;split at hg
  .rename_i aB g_;split at hg
   .rename_i hc;obtain⟨hw,K8,lZ,zO⟩:=hc;cases hg;have lV:(x.val ρ).oneCell'=true:=by
     have iW:=ρ.ok;cases x with
     | vv i=>exact iW.vvD i
     | kj v cs s=>exact pz _ _ _ _ (ρ.vv.getD v V1.nil).one
     | _=>simp[iJ]at hr
    obtain⟨S,hS⟩:=h.own;have dF:Reads st.hp ρ w S [r.j]:=by
     intro j _ ck hj;refine(hS.at_ j (ck.den ρ) ?_).1;rw[axX (by simpa using (axT.1 hj).1),List.getElem?_map,hj];rfl
    have hj:st.hp[r.j]? =some (.cF r.md r.v r.t r.s r.n r.aB):=by
     unfold iJ at hr;split at hr
     .split at hr
      .rename_i hf;cases hr;obtain⟨hj,er⟩:=dy hf;simp only[Ck.og,beq_iff_eq]at er;subst er;exact hj
      .cases hr
     .split at hr
      .rename_i hf;split at hr
       .rename_i hss;cases hr;obtain⟨hj,er⟩:=dy hf;simp only[Ck.og,beq_iff_eq]at er;subst er;exact hj
       .cases hr
      .cases hr
     .cases hr
    refine⟨_,lV,rfl,λcA=>?_,rfl,rfl,rfl,rfl,r.j,_,_,_,_,_,_,_,hj,rfl⟩;obtain⟨v1,v2⟩:=bM cA;have v2:=br v2;simp only[E.den]at v2;obtain⟨_,fx⟩:=gJ hr dF v1;have hle:=Env.mC ρ ⟨x.val ρ,lV⟩;have gp:=Env.Le.fP h.lens hle;have fO:st.aY.le {st.aY with v:=st.aY.v+1}:=by constructor<;>simp
    have hSr:=dF r.j (by simp) _ hj;refine⟨h.lens.jM _,dz fO h.m7,?_,ik fO h.qF,λb hb=>(BE.jV gp (axS.1 h.qF b hb)).1 (h.kn b hb),?_,h.same,ey fO h.oq⟩
    .refine axS.2 λq hq=>?_
     rcases ayy hq with hq | rfl
     .exact Ck.bp fO (axS.1 h.iu q hq)
     .simp only[Ck.sc,ai,ayb];exact⟨⟨Nat.lt_succ_self _,E.bp fO lZ⟩,lp fO zO⟩
    .simp only[List.map_set];have UZ:st.hp.map (Ck.den (ρ.jM ⟨x.val ρ,lV⟩))=st.hp.map (Ck.den ρ):=(mZ gp h.iu).symm;rw[UZ];have EG:(Ck.cF md st.aY.v r.t r.s r.p.len aB).den (ρ.jM ⟨x.val ρ,lV⟩)=aA md r.t r.s (x.val ρ) (r.p.len.den ρ 0).toNat (aL ρ (r.p.len.den ρ 0).toNat aB):=by
      simp only[Ck.den,fX ρ _ h.lens.v];rw[<-E.bZ gp lZ,<-vS gp zO]
     rw[EG];obtain⟨e1,e2⟩:=lG fx.lo g_;have h2:=fx.hi;have h1:=fx.lo;have mX:((aL ρ (r.n.den ρ 0).toNat r.aB).drop ((r.p.lo.den ρ 0).toNat*r.s)).take ((r.p.len.den ρ 0).toNat*r.s)=aL ρ (r.p.len.den ρ 0).toNat aB:=by
      rw[dI,hw,vO (dU ρ r.aB) _ _ _ (by omega),dI];exact eM λi _=>(e2 i).symm
     refine aU.weaken hS r.j _ _ (by rw[List.getElem?_map,hj];rfl) (λvn=>K8 vn) (λk=>(x.val ρ).ownBlock=some k/\(md=true\/0<(r.p.len.den ρ 0).toNat)) (λk hk=>?_) ⟨?_,λk=>Iff.rfl⟩
     .rw [PO fx]at hk;refine(hSr.2 k).2 ⟨hk.1,hk.2.imp (λh=>K8 h) λh=>?_⟩;omega
     .cases md with
      | true=>
       simp only[if_true];have eX:=hSr.1;rw[K8 rfl]at eX;simp only[if_true]at eX;have:=(zm fx v2 eX).1;rw[mX]at this;exact this
      | false=>
       simp only[Bool.false_eq_true,if_false];have:=PN fx (xW hSr).1;rw[mX]at this;refine⟨?_,this⟩;rw[eL,e1,<-hw]
   .cases hg
  .cases hg
 .cases hg
theorem U0{L:Nat->LC}: ∀{vcs:List BE} {f:F} {ρ:Env},VC P al (vcF vcs f) ρ L->(∀b∈vcs,b.prop ρ)/\VC P al f ρ L
 | [],f,ρ,h=>⟨by simp,h⟩
 | b::r,f,ρ,h=>by
  obtain⟨h1,h2⟩:=h;obtain⟨h3,h4⟩:=U0 (h2 h1);exact⟨λc hc=>(List.mem_cons.1 hc).elim (λe=>e▸h1) (h3 c),h4⟩
theorem CB(hp:List Ck)(i j:Nat): ∃σ:Nat->Nat,(∀a b,σ a=σ b->a=b)/\(∀k,k<hp.length->σ k<hp.length)/\(∀k,hp.length<=k->σ k=k)/\∀k,(swapAt hp i j)[k]? =hp[σ k]? :=by
 unfold swapAt;split
 .rename_i d c hi hj;have li:=(axT.1 hi).1;have lj:=(axT.1 hj).1;refine⟨λk=>if k=i then j else if k=j then i else k,λa b=>?_,λk hk=>?_,λk hk=>?_,λk=>?_⟩
  .simp only;split<;>split<;>(try split)<;>(try split)<;>omega
  .simp only;split
   .exact lj
   .split
    .exact li
    .exact hk
  .simp only;rw[if_neg (by omega),if_neg (by omega)]
  .simp only[List.getElem?_set,List.length_set];by_cases h1:k=i
   .subst h1;by_cases h2:j=k
    .subst h2;simp[li];exact(axT.1 hi).2.symm
    .rw [if_neg h2,if_pos rfl,if_pos rfl,if_pos li,hj]
   .by_cases h2:k=j
    .subst h2;rw[if_pos rfl,if_pos lj,if_neg h1,if_pos rfl,hi]
    .rw [if_neg (λe=>h2 e.symm),if_neg (λe=>h1 e.symm),if_neg h1,if_neg h2]
 .exact⟨λk=>k,λ_ _ h=>h,λ_ h=>h,λ_ _=>rfl,λ_=>rfl⟩
theorem CC(hp:List Ck)(i j:Nat):(swapAt hp i j).length=hp.length:=by
 unfold swapAt;split
 .simp
 .rfl
theorem U1{hp:List Ck}{i j:Nat}{p:Ck->Bool}(h:hp.all p=true):(swapAt hp i j).all p=true:=by
 obtain⟨σ,_,_,_,hg⟩:=CB hp i j;rw[axS]at h ⊢;intro x hx;obtain⟨k,hk⟩:=List.getElem?_of_mem hx;rw[hg]at hk;exact h x (ayh hk)
theorem U2{hp:List Ck}{i j:Nat}{ρ:Env}{Fs:List HP}{w:World}(h:aU (hp.map (Ck.den ρ)++Fs) w):aU ((swapAt hp i j).map (Ck.den ρ)++Fs) w:=by
 obtain⟨σ,h1,h2,h3,h4⟩:=CB hp i j;refine h.vW (λk=>some (σ k)) (λk x hx=> .inr ⟨σ k,rfl,?_⟩) (λa b c ha hb _ _=>h1 a b ?_)
 .by_cases hk:k<hp.length
  .rw [axX (by rw[ayd,CC];exact hk),List.getElem?_map,h4]at hx;rw[axX (by rw[ayd];exact h2 k hk),List.getElem?_map];exact hx
  .rw [axY (by rw[ayd,CC];omega),ayd,CC]at hx;rw[h3 k (by omega),axY (by rw[ayd];omega),ayd];exact hx
 .rw [axU]at ha hb;rw[ha,hb]
theorem I2{T:List TI}{st ei:St}{x:um}{wr:Co}{L:Nat->LC}{f:F}(hg:eZ T st x=some (ei,wr))(h:HW Fs w0 st ρ w)(ha:HA st.fr st.nt ρ a)(hv:VC P al (iR [wr] f) ρ L):
  ∃bG,Env.Le ρ bG/\HW Fs w0 ei bG w/\HA ei.fr ei.nt bG a/\ei.fn=st.fn/\VC P al f bG L:=by
 cases wr with
 | nil=>
  obtain⟨g1,g2,g3,g4⟩:=PM hg h ha;exact⟨_,Env.mC _ _,g1,g2,g4,hv⟩
 | same=>
  simp only[iR]at hv;cases x with
  | slot s t=>
   simp only[eZ]at hg;split at hg
   .rw [axV]at hg;obtain⟨_,_,he⟩:=hg;cases he
   .cases hg
  | cell i j t=>
   simp only[eZ]at hg;split at hg
   .split at hg
    .rw [axV]at hg;obtain⟨_,_,he⟩:=hg;cases he
    .cases hg
   .cases hg
  | cut s md=>
   simp only[eZ]at hg;split at hg
   .rw [axV]at hg;obtain⟨y,hy,he⟩:=hg;obtain⟨_,_,hw,_⟩:=lA (wr:=y.2) (ei:=y.1) hy h;simp only[ayz]at he;rw[he.2]at hw;cases hw
   .cases hg
  | own s t=>
   simp only[eZ]at hg;split at hg
   .rw [axV]at hg;obtain⟨y,hy,he⟩:=hg;obtain⟨_,_,hw,_⟩:=px (wr:=y.2) (ei:=y.1) hy h;simp only[ayz]at he;rw[he.2]at hw;cases hw
   .cases hg
  | rh i j md=>
   simp only[eZ]at hg;split at hg
   .split at hg
    .split at hg
     .rename_i s1 wr1 hy;obtain⟨_,_,hw,_⟩:=lA hy h;split at hg
      .split at hg
       .simp only[axU,ayz]at hg;rw[hg.2]at hw;cases hw
       .cases hg
      .cases hg
     .cases hg
    .cases hg
   .cases hg
  | marks=>simp[eZ]at hg
  | mark=>
   simp only[eZ]at hg;split at hg
   .split at hg
    .simp at hg
    .cases hg
   .simp only[axU,ayz,and_true]at hg;subst hg;exact⟨ρ,Env.Le.refl _,h,ha,rfl,hv⟩
   .cases hg
  | swap s i=>
   simp only[eZ]at hg;split at hg
   .simp only[axU,ayz,and_true]at hg;subst hg;exact⟨ρ,Env.Le.refl _,⟨h.lens,h.m7,U1 h.iu,h.qF,h.kn,U2 h.own,h.same,h.oq⟩,ha,rfl,hv⟩
   .cases hg
 | uv=>
  simp only[iR,VC]at hv;cases x with
  | slot s t=>
   simp only[eZ]at hg;split at hg
   .rw [axV]at hg;obtain⟨_,_,he⟩:=hg;cases he
   .cases hg
  | cell i j t=>
   simp only[eZ]at hg;split at hg
   .split at hg
    .rw [axV]at hg;obtain⟨_,_,he⟩:=hg;cases he
    .cases hg
   .cases hg
  | cut s md=>
   simp only[eZ]at hg;split at hg
   .rw [axV]at hg;obtain⟨y,hy,he⟩:=hg;obtain⟨_,_,hw,_⟩:=lA (wr:=y.2) (ei:=y.1) hy h;simp only[ayz]at he;rw[he.2]at hw;cases hw
   .cases hg
  | own s t=>
   simp only[eZ]at hg;split at hg
   .rw [axV]at hg;obtain⟨y,hy,he⟩:=hg;obtain⟨_,_,hw,_⟩:=px (wr:=y.2) (ei:=y.1) hy h;simp only[ayz]at he;rw[he.2]at hw;cases hw
   .cases hg
  | rh i j md=>
   simp only[eZ]at hg;split at hg
   .split at hg
    .split at hg
     .rename_i s1 wr1 hy;obtain⟨_,_,hw,_⟩:=lA hy h;split at hg
      .split at hg
       .simp only[axU,ayz]at hg;rw[hg.2]at hw;cases hw
       .cases hg
      .cases hg
     .cases hg
    .cases hg
   .cases hg
  | marks=>
   simp only[eZ,axU,ayz,and_true]at hg;subst hg;have hle:=Env.FO ρ (qL []);have gp:=Env.Le.fP h.lens hle;have fO:st.aY.le {st.aY with b:=st.aY.b+1}:=by constructor<;>simp
   have hb:=jK ρ (qL []) h.lens.b;refine⟨_,hle,⟨h.lens.oN _,dz fO h.m7,?_,ik fO h.qF,λb hb=>(BE.jV gp (axS.1 h.qF b hb)).1 (h.kn b hb),?_,h.same,?_⟩,?_,rfl,hv (qL [])⟩
   .rw [List.all_append,ai];exact⟨ky fO h.iu,by simp[Ck.sc]⟩
   .rw [List.map_append];refine aU.add (h.CA hle) _ (λ_=>False) (Nat.le_refl _) (λ_ _=>rfl) ?_ (λ_ hk=>hk.elim);simp only[Ck.den,hb,qM];exact⟨by simp,by simp,by simp⟩
   .rw [List.all_cons,ai];exact⟨by simp[MK.sc],ey fO h.oq⟩
   .have xS:=ha.more h.m7 h.oq gp;refine⟨?_,xS.size,xS.aQ⟩;rw[xS.defers];simp only[marks,MK.blocks,ayn,hb,qM,List.nil_append]
  | mark=>
   simp only[eZ]at hg;split at hg;rotate_left
   .simp at hg
   .cases hg
   rename_i b c ds P5;split at hg;rotate_left
   .cases hg
   rename_i i j hi hj;simp only[axU,ayz,and_true]at hg;subst hg;have cj:st.hp[i]? =some (.NP b):=by
    rw[List.findIdx?_eq_some_iff_getElem]at hi;obtain⟨cC,hd,_⟩:=hi;cases hc:st.hp[i]with
    | NP b'=>
     rw[hc]at hd;simp only[Ck.Ed,beq_iff_eq]at hd;subst hd;rw[ays cC,hc]
    | _=>rw[hc]at hd;simp[Ck.Ed]at hd
   have eF:st.hp[j]? =some (.vT c):=by
    rw[List.findIdx?_eq_some_iff_getElem]at hj;obtain⟨cC,hd,_⟩:=hj;cases hc:st.hp[j]with
    | vT b'=>
     rw[hc]at hd;simp only[Ck.yw,beq_iff_eq]at hd;subst hd;rw[ays cC,hc]
    | _=>rw[hc]at hd;simp[Ck.yw]at hd
   have O4:=h.oq;rw[P5]at O4;simp only[List.all_cons,ai,MK.sc,ayb]at O4;generalize hl:ρ.bv.getD b 0::rS (ρ.bv.getD c 0)=l;have hle:=Env.FO ρ (qL l);have gp:=Env.Le.fP h.lens hle;have fO:st.aY.le {st.aY with b:=st.aY.b+1}:=by constructor<;>simp
   have hb:=jK ρ (qL l) h.lens.b;refine⟨_,hle,⟨h.lens.oN _,dz fO h.m7,?_,ik fO h.qF,λb hb=>(BE.jV gp (axS.1 h.qF b hb)).1 (h.kn b hb),?_,h.same,?_⟩,?_,rfl,hv (qL l)⟩
   .refine axS.2 λq hq=>?_
    rcases ayy hq with hq | rfl
    .rcases ayy hq with hq | rfl
     .exact Ck.bp fO (axS.1 h.iu q hq)
     .rfl
    .simp [Ck.sc]
   .have ho:=h.CA hle;rw[List.map_set,List.map_set];have e1:(st.hp.map (Ck.den (ρ.oN (qL l))))[i]? =some (Az (ρ.bv.getD b 0)):=by
     rw[List.getElem?_map,cj,Option.map_some,Ck.den,<-gp.b b O4.1]
    have e2:(st.hp.map (Ck.den (ρ.oN (qL l))))[j]? =some (mV (rS (ρ.bv.getD c 0))):=by
     rw[List.getElem?_map,eF,Option.map_some,Ck.den,<-gp.b c O4.2.1]
    have:=ho.I1 e1 e2 (by rintro rfl;rw[cj]at eF;cases eF);rw[hl]at this;rw[show(Ck.vT st.aY.b).den (ρ.oN (qL l))=mV l by simp only[Ck.den,hb,qM]];exact this
   .rw [List.all_cons,ai];exact⟨by simp[MK.sc],ey fO O4.2.2⟩
   .have xS:=ha.more h.m7 h.oq gp;refine⟨?_,xS.size,xS.aQ⟩;rw[ha.defers,P5];rw[show marks ρ (.one b:: .many c::ds)=l.map (λb=>{target:= .collected b,args:= #[]})++marks ρ ds by simp[marks,MK.blocks,<-hl],wi gp O4.2.2];simp only[marks,MK.blocks,ayn,hb,qM,List.map_append]
  | swap s i=>
   simp only[eZ]at hg;split at hg
   .simp at hg
   .cases hg
 | cut vcs=>
  simp only[iR]at hv;obtain⟨cA,hv⟩:=U0 hv;simp only[VC]at hv;cases x with
  | slot s t=>
   simp only[eZ]at hg;split at hg
   .rw [axV]at hg;obtain⟨_,_,he⟩:=hg;cases he
   .cases hg
  | cell i j t=>
   simp only[eZ]at hg;split at hg
   .split at hg
    .rw [axV]at hg;obtain⟨_,_,he⟩:=hg;cases he
    .cases hg
   .cases hg
  | cut s md=>
   simp only[eZ]at hg;split at hg
   .rename_i x hl;rw[axV]at hg;obtain⟨⟨s1,wr1⟩,hy,he⟩:=hg;cases he;obtain⟨aiC,lV,vn,hHW,e1,e2,e3,e4,_⟩:=lA hy h;cases vn;have h1:=hHW cA;have hle:=Env.mC ρ ⟨x.val ρ,lV⟩;have gp:=Env.Le.fP h.lens hle;have xS:=ha.more h.m7 h.oq gp;have yN:(SV.vv st.aY.v).sc s1.aY=true:=by rw[e4];simp[SV.sc]
    refine⟨_,hle,h1.put yN,⟨by rw[(ft _ _ _).2.2.2.1,e2];exact xS.defers,by rw[(ft _ _ _).2.2.2.1,e2];exact ha.size,λq v hq=>?_⟩,by rw[(ft _ _ _).2.2.2.2,e3],hv _⟩;simp only[St.put]at hq;unfold look at hq;split at hq
    .rename_i Nd;rw[beq_iff_eq]at Nd;subst Nd;cases hq;rw[ha.aQ _ _ hl];simp only[SV.val,fX ρ _ h.lens.v]
    .rename_i Nd;rw[pr s _ q (λe=>Nd (by simp[e])),e1]at hq;exact xS.aQ q v hq
   .cases hg
  | own s t=>
   simp only[eZ]at hg;split at hg
   .rename_i x hl;rw[axV]at hg;obtain⟨⟨s1,wr1⟩,hy,he⟩:=hg;cases he;obtain⟨aiC,lV,vn,h1,e1,e2,e3,e4⟩:=px hy h;cases vn;have hle:=Env.mC ρ ⟨x.val ρ,lV⟩;have gp:=Env.Le.fP h.lens hle;have xS:=ha.more h.m7 h.oq gp;have yN:(SV.vv st.aY.v).sc s1.aY=true:=by rw[e4];simp[SV.sc]
    refine⟨_,hle,h1.put yN,⟨by rw[(ft _ _ _).2.2.2.1,e2];exact xS.defers,by rw[(ft _ _ _).2.2.2.1,e2];exact ha.size,λq v hq=>?_⟩,by rw[(ft _ _ _).2.2.2.2,e3],hv _⟩;simp only[St.put]at hq;unfold look at hq;split at hq
    .rename_i Nd;rw[beq_iff_eq]at Nd;subst Nd;cases hq;rw[ha.aQ _ _ hl];simp only[SV.val,fX ρ _ h.lens.v]
    .rename_i Nd;rw[pr s _ q (λe=>Nd (by simp[e])),e1]at hq;exact xS.aQ q v hq
   .cases hg
  | rh i j md=>
   simp only[eZ]at hg;split at hg
   .rename_i b wr cs hi;split at hg
    .rename_i x hj;split at hg
     .rename_i s1 wr1 hy;obtain⟨aiC,lV,vn,hHW,e1,e2,e3,e4,jj,md0,v0,t0,s0,n0,aeJ,ck,e5,e6⟩:=lA hy h;split at hg
      .rename_i b' w' qE cj;split at hg
       .cases hg;cases vn;have h1:=hHW cA;have hle:=Env.mC ρ ⟨x.val ρ,lV⟩;have gp:=Env.Le.fP h.lens hle;have xS:=ha.more h.m7 h.oq gp;have yN:(SV.vv st.aY.v).sc s1.aY=true:=by rw[e4];simp[SV.sc]
        have fL:jj≠i:=by
         intro e;subst e;rw[hi]at e5;cases e5
        have Qf:s1.hp[i]? =some (.row b wr cs):=by
         rw[e6,ayq fL];exact hi
        have Lf:=axS.1 h1.iu _ (ayh Qf);simp only[Ck.sc,ai]at Lf;have Jw:x.sc st.aY=true:=by
         have:=axS.1 h.iu _ (ayh hi);simp only[Ck.sc,ai]at this;have key: ∀{l:List SV} {k:Nat} {y:SV},SV.rF st.aY l=true->l[k]? =some y->y.sc st.aY=true:=by
          intro l
          induction l with
          | nil=>intro k y _ hy;simp at hy
          | cons z r ih=>
           intro k y hl hy;simp only[SV.rF,ai]at hl;cases k with
           | zero=>simp at hy;subst hy;exact hl.1
           | succ k=>exact ih hl.2 (by simpa using hy)
         exact key this.2 hj
        have NG:x.plain=true:=by
         unfold Cp at hy;split at hy
         .rename_i r hr;cases x<;>first | rfl | simp[iJ]at hr
         .cases hy
        have EG:(Ck.row b wr (cs.set j (.vv st.aY.v))).den (ρ.jM ⟨x.val ρ,lV⟩)=(Ck.row b wr cs).den (ρ.jM ⟨x.val ρ,lV⟩):=by
         simp only[Ck.den];rw[vi hj];rw[jG _ NG,<-(SV.xN gp Jw).1];simp only[SV.cells,fX ρ _ h.lens.v]
        have UZ:(s1.hp.set i (.row b wr (cs.set j (.vv st.aY.v)))).map (Ck.den (ρ.jM ⟨x.val ρ,lV⟩))=s1.hp.map (Ck.den (ρ.jM ⟨x.val ρ,lV⟩)):=by
         rw[List.map_set,EG];apply List.ext_getElem?;intro q;rw[List.getElem?_set];split
         .rename_i hq;subst hq;split
          .rw [List.getElem?_map,Qf];rfl
          .rename_i cC;rw[List.getElem?_eq_none (by omega)]
         .rfl
        refine⟨_,hle,⟨h1.lens,h1.m7,?_,h1.qF,h1.kn,by rw[UZ];exact h1.own,h1.same,h1.oq⟩,⟨by rw[e2];exact xS.defers,by rw[e2];exact ha.size,by rw[e1];exact xS.aQ⟩,e3,hv _⟩;refine axS.2 λq hq=>?_
        rcases ayy hq with hq | rfl
        .exact axS.1 h1.iu q hq
        .simp only[Ck.sc,ai];exact⟨Lf.1,FP Lf.2 yN⟩
       .cases hg
      .cases hg
     .cases hg
    .cases hg
   .cases hg
  | marks=>simp[eZ]at hg
  | mark=>
   simp only[eZ]at hg;split at hg
   .split at hg
    .simp at hg
    .cases hg
   .simp at hg
   .cases hg
  | swap s i=>
   simp only[eZ]at hg;split at hg
   .simp at hg
   .cases hg
theorem FQ(x:Co)(r:List Co)(f:F):iR (x::r) f=iR [x] (iR r f):=by cases x<;>rfl
theorem lQ{T:List TI}{L:Nat->LC}{f:F}: ∀{xs:List um} {st ei:St} {n:List Co} {ρ:Env},vg T st xs=some (ei,n)->HW Fs w0 st ρ w->HA st.fr st.nt ρ a->VC P al (iR n f) ρ L->
  ∃bG,Env.Le ρ bG/\HW Fs w0 ei bG w/\HA ei.fr ei.nt bG a/\ei.fn=st.fn/\VC P al f bG L
 | [],st,ei,n,ρ,h,hw,ha,hv=>by
  simp only[vg,axU,ayz]at h;obtain⟨rfl,rfl⟩:=h;exact⟨ρ,Env.Le.refl _,hw,ha,rfl,hv⟩
 | x::xs,st,ei,n,ρ,h,hw,ha,hv=>by
  unfold vg at h;split at h
  .rename_i s1 h1;split at h
   .rename_i s2 k h2;simp only[axU,ayz]at h;obtain⟨rfl,rfl⟩:=h;rw[FQ]at hv;obtain⟨tm,g0,g1,g2,g4,g5⟩:=I2 h1 hw ha hv;obtain⟨bG,q1,q2,q3,q5,q6⟩:=lQ h2 g1 g2 g5;exact⟨bG,g0.trans q1,q2,q3,q5.trans g4,q6⟩
   .cases h
  .cases h
end
end Go.RX
