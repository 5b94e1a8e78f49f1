/- Executor. -/
import Derived.Test.YtphemenngjkfbaaRxU
open Bool renaming and_eq_true → ai
open Int renaming toNat → ag
open List renaming all_eq_true → agv, getElem?_append_left → agC, getElem?_append_right → agD, getElem?_eq_getElem → ag6, getElem?_eq_none → ag7, getElem?_eq_some_iff → agx, getElem?_set_ne → agX, mem_or_eq_of_mem_set → ag2
open Nat renaming blt_eq → agM
open Option renaming getD_some → ahe, map_eq_some_iff → agz
open Option.some renaming injEq → agy
open Prod.mk renaming injEq → ag_
namespace Go.RX
section
variable {P:Program} {C:Ctx} {aq:Value→List HP→Prop} {Fs:List HP} {w0:World} {ρ:Env} {a:Act} {w:World}
theorem Env.Fq(ρ:Env)(b:Nat):Env.Le ρ (ρ.nG b):=by rw [Env.R7];exact Env.gL _ _
theorem Env.kb(ρ:Env)(v:V1):Env.Le ρ (ρ.gI v):=by rw [Env.R8];exact Env.gL _ _
theorem gK.nG{c:cF}(h:gK ρ c)(b:Nat):gK (ρ.nG b) {c with b:=c.b+1}:=
 ⟨by simp [Env.nG,h.b],h.v,h.i,h.a,h.bo,h.p,h.r⟩
theorem gK.gI{c:cF}(h:gK ρ c)(v:V1):gK (ρ.gI v) {c with v:=c.v+1}:=
 ⟨h.b,by simp [Env.gI,h.v],h.i,h.a,h.bo,h.p,h.r⟩
theorem eA(ρ:Env)(v:V1){n:Nat}(h:ρ.vv.length=n):(ρ.gI v).vv.getD n V1.nil=v:=by
 subst h;simp [Env.gI]
theorem ju(ρ:Env)(b:Nat){n:Nat}(h:ρ.bv.length=n):(ρ.nG b).bv.getD n 0=b:=by
 subst h;simp [Env.nG]
theorem uE{ρ:Env}: ∀{cs:List SV} {j:Nat} {x y:SV},cs[j]? =some x→SV.cells ρ y=SV.cells ρ x→SV.ar ρ (cs.set j y)=SV.ar ρ cs
 | [],j,x,y,h,_=>by simp at h
 | c::cs,0,x,y,h,e=>by
  simp only [List.getElem?_cons_zero,agy]at h;subst h;simp only [List.set_cons_zero,SV.ar,e]
 | c::cs,j+1,x,y,h,e=>by
  simp only [List.getElem?_cons_succ]at h;simp only [List.set_cons_succ,SV.ar,uE h e]
theorem Ft{c:cF}: ∀{cs:List SV} {j:Nat} {y:SV},SV.qz c cs=true→y.sc c=true→SV.qz c (cs.set j y)=true
 | [],j,y,h,_=>by simpa using h
 | x::cs,0,y,h,e=>by
  simp only [SV.qz,ai]at h;simp only [List.set_cons_zero,SV.qz,ai];exact⟨e,h.2⟩
 | x::cs,j+1,y,h,e=>by
  simp only [SV.qz,ai]at h;simp only [List.set_cons_succ,SV.qz,ai];exact⟨h.1,Ft h.2 e⟩
theorem HW.BO{st:St}{bI:Env}(h:HW Fs w0 st ρ w)(hle:Env.Le ρ bI):aU (st.hp.map (Ck.den bI)++Fs) w:=by
 rw [←kX (Env.Le.agree h.lens hle) h.gF];exact h.own
theorem yG{T:List TI}{st dD:St}{t:Nat}(hg:Ll T st t=some dD)(h:HW Fs w0 st ρ w):
  HW Fs w0 dD (ρ.gI ⟨.slice none 0 0,rfl⟩) w∧dD.fr=st.fr∧dD.nt=st.nt∧dD.fn=st.fn∧dD.aS={st.aS with v:=st.aS.v+1}∧∃ck,dD.hp=st.hp++[ck]:=by
 unfold Ll at hg;split at hg
 ·rename_i ti aA c9 eU;split at hg
  ·rename_i jx;cases hg;have hle:=Env.kb ρ ⟨.slice none 0 0,rfl⟩;have eL:st.aS.le {st.aS with v:=st.aS.v+1}:=by constructor<;>simp
   refine⟨⟨h.lens.gI _,cO eL h.lX,?_,fk eL h.oO,fun b hb=>?_,?_,h.same,dz eL h.mP⟩,rfl,rfl,rfl,rfl,_,rfl⟩
   ·rw [List.all_append,ai];refine⟨i_ eL h.gF,?_⟩;simp only [List.all_cons,List.all_nil,Ck.sc,E.sc,Bool.and_true,ai,agM];exact⟨Nat.lt_succ_self _,jA eL jx⟩
   ·exact(BE.gT (Env.Le.agree h.lens hle) (agv.1 h.oO b hb)).1 (h.kn b hb)
   ·rw [List.map_append];refine aU.add (h.BO hle) _ (fun _=>False) (Nat.le_refl _) (fun _ _=>rfl) ?_ (fun _ hk=>hk.elim);simp only [Ck.den,eA ρ _ h.lens.v];refine⟨?_,fun k=>by simp [Value.ownBlock]⟩;simp only [if_true];exact kO w t ti.size
  ·cases hg
 ·cases hg
theorem aU.weaken{a b:List HP}{w:World}{S:Nat→Nat→Prop}(h:Sep (a++b) S w)(i:Nat)(h0 h':HP)(hi:a[i]? =some h0)(hw:h'.wr=true→h0.wr=true)
  (S':Nat→Prop) (eu: ∀k,S' k→S i k) (hp:h'.p w S'):aU (a.set i h'++b) w:=by
 have cZ:i<a.length:=(agx.1 hi).1;have oq:(a++b)[i]? =some h0:=by rw [agC cZ];exact hi
 have hold: ∀(j:Nat) x,(a.set i h'++b)[j]? =some x→∃y,(a++b)[j]? =some y∧(x.wr=true→y.wr=true)∧(j≠i→x=y)∧(j=i→x=h'):=by
  intro j x hx;by_cases hj:j=i
  ·subst hj;rw [agC (by simpa using cZ),List.getElem?_set_self cZ]at hx;cases hx;exact⟨h0,oq,hw,fun h=>absurd rfl h,fun _=>rfl⟩
  ·refine⟨x,?_,id,fun _=>rfl,fun h=>absurd h hj⟩;by_cases Pm:j<a.length
   ·rw [agC (by simpa using Pm),agX (Ne.symm hj)]at hx;rw [agC Pm];exact hx
   ·rw [agD (by simp;omega),List.length_set]at hx;rw [agD (by omega)];exact hx
 have QW: ∀j k,(if j=i then S' k else S j k)→S j k:=by
  intro j k hk;split at hk
  ·rename_i hj;subst hj;exact eu k hk
  ·exact hk
 refine⟨fun j k=>if j=i then S' k else S j k,⟨fun j x hx=>?_,fun j k x y eJ hx hy y_ q h1 h2=>?_⟩⟩
 ·obtain⟨y,hy,_,h1,h2⟩:=hold j x hx;obtain⟨hpy,hb⟩:=h.at_ j y hy;refine⟨?_,fun k hk=>hb k (QW j k hk)⟩;by_cases hj:j=i
  ·subst hj;rw [h2 rfl];simp only [if_true];exact hp
  ·rw [h1 hj];simp only [hj,if_false];exact hpy
 ·obtain⟨x',H3,wx,_,_⟩:=hold j x hx;obtain⟨y',Pp,wy,_,_⟩:=hold k y hy;exact h.apart j k x' y' eJ H3 Pp (y_.imp wx wy) q (QW j q h1) (QW k q h2)
theorem og{st dD:St}{x:SV}{ty:Nat}{wr:Wrap}(hg:QP st x ty=some (dD,wr))(h:HW Fs w0 st ρ w):
  ∃vcs jJ,wr= .cut vcs∧HW Fs w0 dD (ρ.gI ⟨x.val ρ,jJ⟩) w∧dD.fr=st.fr∧dD.nt=st.nt∧dD.fn=st.fn∧dD.aS={st.aS with v:=st.aS.v+1}:=by
 unfold QP at hg;split at hg
 case h_2=>cases hg
 rename_i b ix s n m;split at hg
 case h_2=>cases hg
 rename_i j b' cs q RW hix hn;split at hg
 case h_2=>cases hg
 rename_i ki kl a L9;split at hg
 case isFalse=>cases hg
 rename_i hc;obtain⟨rfl,rfl,hq,N4,ZQ,hsa⟩:=hc;cases hg;have XM:n.den ρ 0=(q:Int):=cM (ρ:=ρ) hn;have XO:ix.den ρ 0=((0:Nat):Int):=cM (ρ:=ρ) hix;have Iu:(SV.sl b ix 1 n n).val ρ= .slice (some ⟨ρ.bv.getD b 0,0,none⟩) q q:=by simp [SV.val,XM,XO]
 obtain⟨hj,ew⟩:=c_ RW;simp only [Ck.sN,beq_iff_eq]at ew;subst ew;obtain⟨S,hS⟩:=h.own;have dp:Reads st.hp ρ w S [j]:=by
  intro j _ ck hj;refine(hS.at_ j (ck.den ρ) ?_).1;rw [agC (by simpa using (agx.1 hj).1),List.getElem?_map,hj];rfl
 have Zn:=dp j (by simp) _ hj;have fM:SV.ar ρ cs=ak ki q (a.den ρ):=by
  have R5:=gZ (ρ:=ρ) L9;rw [N4,List.length_replicate,pK]at R5;exact R5
 have hlen:(SV.ar ρ cs).length=q:=by rw [fM,aH]
 have RZ:(ao (ρ.bv.getD b 0) true (SV.ar ρ cs)).p w (S j):=Zn;have cU:=Ge (t:=ty) RZ (by rw [hlen];unfold maxLen;omega);rw [hlen,fM]at cU;refine⟨[],by rw [Iu];rfl,rfl,?_,rfl,rfl,rfl,rfl⟩;have jJ:((SV.sl b ix 1 n n).val ρ).oneCell'=true:=by rw [Iu];rfl
 have hle:=Env.kb ρ ⟨(SV.sl b ix 1 n n).val ρ,jJ⟩;have eV:=Env.Le.agree h.lens hle;have eL:st.aS.le {st.aS with v:=st.aS.v+1}:=by constructor<;>simp
 refine⟨h.lens.gI _,cO eL h.lX,?_,fk eL h.oO,fun b hb=>(BE.gT eV (agv.1 h.oO b hb)).1 (h.kn b hb),?_,h.same,dz eL h.mP⟩
 ·refine agv.2 fun z hz=>?_
  rcases ag2 hz with hz | rfl
  ·exact Ck.bu eL (agv.1 h.gF z hz)
  ·simp only [Ck.sc,ai,agM,List.all_cons,List.all_nil,cb.sc,CK.sc,E.sc,and_true];exact⟨Nat.lt_succ_self _,E.bu eL hsa⟩
 ·simp only [List.map_set];have J6:st.hp.map (Ck.den (ρ.gI ⟨(SV.sl b ix 1 n n).val ρ,jJ⟩))=st.hp.map (Ck.den ρ):=(kX eV h.gF).symm;rw [J6];have AB:(Ck.cy true st.aS.v ty 1 (.lit (q:Int)) [⟨.int ki,1,a⟩]).den (ρ.gI ⟨(SV.sl b ix 1 n n).val ρ,jJ⟩)=aC true ty 1 (.slice (some ⟨ρ.bv.getD b 0,0,none⟩) q q) q (ak ki q (a.den ρ)):=by
   simp only [Ck.den,eA ρ _ h.lens.v];rw [eC,←E.b_ eV hsa];have hqd: ∀r:Env,((E.lit (q:Int)).den r 0).toNat=q:=fun r=>by show ag (q:Int)=q;omega
   rw [hqd,Iu]
  rw [AB];refine aU.weaken hS j _ _ (by rw [List.getElem?_map,hj];rfl) (fun _=>rfl) (fun k=>(Value.slice (some ⟨ρ.bv.getD b 0,0,none⟩) q q).ownBlock=some k∧(true=true∨0<q)) (fun k hk=>?_) ⟨?_,fun k=>Iff.rfl⟩
  ·refine(RZ.1 k).2 ?_;have:=hk.1;simp only [Value.ownBlock,agy]at this
   first | exact this.symm | exact this
  ·simp only [if_true];exact cU
theorem Ns{T:List TI}{st dD:St}{x:tu}(hg:eo T st x=some (dD,.nil))(h:HW Fs w0 st ρ w)(ha:HA st.fr st.nt ρ a):
  HW Fs w0 dD (ρ.gI ⟨.slice none 0 0,rfl⟩) w∧HA dD.fr dD.nt (ρ.gI ⟨.slice none 0 0,rfl⟩) a∧dD.nt=st.nt∧dD.fn=st.fn:=by
 have hle:=Env.kb ρ ⟨.slice none 0 0,rfl⟩;have eV:=Env.Le.agree h.lens hle;have vq:=ha.more h.lX h.mP eV;cases x with
 | slot s t=>
  simp only [eo]at hg;split at hg
  ·rename_i hl;rw [agz]at hg;obtain⟨s1,iX,Zl⟩:=hg;cases Zl;obtain⟨h1,e1,e2,e3,e4,ck,e5⟩:=yG iX h;have hv:(SV.vv st.aS.v).sc s1.aS=true:=by rw [e4];simp [SV.sc]
   refine⟨h1.put hv,⟨by rw [(eF _ _ _).2.2.2.1,e2];exact vq.defers,by rw [(eF _ _ _).2.2.2.1,e2];exact ha.size,fun q v hq=>?_⟩,by rw [(eF _ _ _).2.2.2.1,e2],by rw [(eF _ _ _).2.2.2.2,e3]⟩;simp only [St.put]at hq;unfold look at hq;split at hq
   ·rename_i Lq;rw [beq_iff_eq]at Lq;subst Lq;cases hq;rw [ha.slots _ _ hl];simp only [SV.val,eA ρ _ h.lens.v]
   ·rename_i Lq;rw [od s _ q (fun e=>Lq (by simp [e])),e1]at hq;exact vq.slots q v hq
  ·cases hg
 | cell i j t=>
  simp only [eo]at hg;split at hg
  ·rename_i b wr cs hi;split at hg
   ·rename_i hj;rw [agz]at hg;obtain⟨s1,iX,Zl⟩:=hg;cases Zl;obtain⟨h1,e1,e2,e3,e4,ck,e5⟩:=yG iX h;have hv:(SV.vv st.aS.v).sc s1.aS=true:=by rw [e4];simp [SV.sc]
    have oq:s1.hp[i]? =some (.row b wr cs):=by
     rw [e5,agC (agx.1 hi).1];exact hi
    have J7:=agv.1 h1.gF _ (List.mem_of_getElem? oq);simp only [Ck.sc,ai]at J7;have AB:(Ck.row b wr (cs.set j (.vv st.aS.v))).den (ρ.gI ⟨.slice none 0 0,rfl⟩)=(Ck.row b wr cs).den (ρ.gI ⟨.slice none 0 0,rfl⟩):=by
     simp only [Ck.den];rw [uE hj];simp only [SV.cells,eA ρ _ h.lens.v]
    have J6:(s1.hp.set i (.row b wr (cs.set j (.vv st.aS.v)))).map (Ck.den (ρ.gI ⟨.slice none 0 0,rfl⟩))=s1.hp.map (Ck.den (ρ.gI ⟨.slice none 0 0,rfl⟩)):=by
     rw [List.map_set,AB];apply List.ext_getElem?;intro q;rw [List.getElem?_set];split
     ·rename_i hq;subst hq;split
      ·rw [List.getElem?_map,oq];rfl
      ·rename_i cZ;rw [ag7 (by omega)]
     ·rfl
    refine⟨⟨h1.lens,h1.lX,?_,h1.oO,h1.kn,by rw [J6];exact h1.own,h1.same,h1.mP⟩,⟨by rw [e2];exact vq.defers,by rw [e2];exact ha.size,by rw [e1];exact vq.slots⟩,e2,e3⟩;refine agv.2 fun q hq=>?_
    rcases ag2 hq with hq | rfl
    ·exact agv.1 h1.gF q hq
    ·simp only [Ck.sc,ai];exact⟨J7.1,Ft J7.2 hv⟩
   ·cases hg
  ·cases hg
 | cut s md=>
  simp only [eo]at hg;split at hg
  ·rw [agz]at hg;obtain⟨y,hy,he⟩:=hg;exfalso;unfold BF at hy;split at hy
   ·split at hy
    ·split at hy
     ·cases hy;cases he
     ·cases hy
    ·cases hy
   ·cases hy
  ·cases hg
 | own s t=>
  simp only [eo]at hg;split at hg
  ·rw [agz]at hg;obtain⟨y,hy,he⟩:=hg;exfalso;obtain⟨_,_,hw,_⟩:=og (wr:=y.2) (dD:=y.1) hy h;simp only [ag_]at he;rw [he.2]at hw;cases hw
  ·cases hg
 | wg i j md=>
  simp only [eo]at hg;split at hg
  ·split at hg
   ·split at hg
    ·rename_i mL Xe hy;exfalso;have:Xe≠ .nil:=by
      unfold BF at hy;split at hy
      ·split at hy
       ·split at hy
        ·cases hy;simp
        ·cases hy
       ·cases hy
      ·cases hy
     split at hg
     ·split at hg
      ·simp only [agy,ag_]at hg;exact this hg.2
      ·cases hg
     ·cases hg
    ·cases hg
   ·cases hg
  ·cases hg
 | marks=>simp [eo]at hg
 | mark=>
  simp only [eo]at hg;split at hg
  ·split at hg
   ·simp at hg
   ·cases hg
  ·simp at hg
  ·cases hg
 | swap s i=>
  simp only [eo]at hg;split at hg
  ·simp at hg
  ·cases hg
theorem aU.HG{a b:List HP}{w:World}{i j k:Nat}{l:List Nat}(h:aU (a++b) w)(hi:a[i]? =some (zN k))(hj:a[j]? =some (l5 l))(Fy:i≠j):
  aU ((a.set i HP.emp).set j (l5 (k::l))++b) w:=by
 obtain⟨S,hS⟩:=h;have FA:i<a.length:=(agx.1 hi).1;have Az:j<a.length:=(agx.1 hj).1;have H5:(a++b)[i]? =some (zN k):=by rw [agC FA];exact hi
 have W8:(a++b)[j]? =some (l5 l):=by rw [agC Az];exact hj
 obtain⟨⟨p1,p2⟩,p3⟩:=hS.at_ i _ H5;obtain⟨⟨q1,q2,q3⟩,q4⟩:=hS.at_ j _ W8;have Rh:w.heap[k]? =some (.deferred (some [])):=p2;have hap: ∀x,S i x→¬S j x:=hS.apart i j _ _ Fy H5 W8 (.inl rfl);have old: ∀(m:Nat) x,((a.set i HP.emp).set j (l5 (k::l))++b)[m]? =some x→(m=i∧x=HP.emp)∨(m=j∧x=l5 (k::l))∨(m≠i∧m≠j∧(a++b)[m]? =some x):=by
  intro m x hx;by_cases Z9:m<a.length
  ·rw [agC (by simpa using Z9)]at hx;by_cases hmj:m=j
   ·subst hmj;rw [List.getElem?_set_self (by simpa using Z9)]at hx;cases hx;exact .inr (.inl ⟨rfl,rfl⟩)
   ·rw [agX (Ne.symm hmj)]at hx;by_cases hmi:m=i
    ·subst hmi;rw [List.getElem?_set_self Z9]at hx;cases hx;exact .inl ⟨rfl,rfl⟩
    ·rw [agX (Ne.symm hmi)]at hx;exact .inr (.inr ⟨hmi,hmj,by rw [agC Z9];exact hx⟩)
  ·rw [agD (by simp;omega)]at hx;simp only [List.length_set]at hx;exact .inr (.inr ⟨by omega,by omega,by rw [agD (by omega)];exact hx⟩)
 refine⟨fun m x=>if m=i then False else if m=j then S i x∨S j x else S m x,⟨fun m x hx=>?_,fun m n x y F_ hx hy y_ z h1 h2=>?_⟩⟩
 ·rcases old m x hx with⟨rfl,rfl⟩ | ⟨rfl,rfl⟩ | ⟨h1,h2,h3⟩
  ·simp only [if_true];exact⟨fun _ h=>h,fun _ h=>h.elim⟩
  ·simp only [Ne.symm Fy,if_false,if_true];refine⟨⟨fun x=>?_,?_,fun b hb=>?_⟩,fun x hx=>hx.elim (p3 x) (q4 x)⟩
   ·simp only [p1,q1,List.mem_cons]
   ·exact List.nodup_cons.2 ⟨fun hk=>hap k ((p1 k).2 rfl) ((q1 k).2 hk),q2⟩
   ·rcases List.mem_cons.1 hb with rfl | hb
    ·exact Rh
    ·exact q3 b hb
  ·simp only [h1,h2,if_false];exact hS.at_ m x h3
 ·rcases old m x hx with⟨rfl,rfl⟩ | ⟨rfl,rfl⟩ | ⟨h3,h4,h5⟩
  ·simp only [if_true]at h1
  ·simp only [Ne.symm Fy,if_false,if_true]at h1;rcases old n y hy with⟨rfl,rfl⟩ | ⟨rfl,rfl⟩ | ⟨h6,h7,h8⟩
   ·simp only [if_true]at h2
   ·exact F_ rfl
   ·simp only [h6,h7,if_false]at h2;exact h1.elim (fun h1=>hS.apart i n _ _ (Ne.symm h6) H5 h8 (.inl rfl) z h1 h2) (fun h1=>hS.apart m n _ _ (Ne.symm h7) W8 h8 (.inl rfl) z h1 h2)
  ·simp only [h3,h4,if_false]at h1;rcases old n y hy with⟨rfl,rfl⟩ | ⟨rfl,rfl⟩ | ⟨h6,h7,h8⟩
   ·simp only [if_true]at h2
   ·simp only [Ne.symm Fy,if_false,if_true]at h2;exact h2.elim (fun h2=>hS.apart m i _ _ h3 h5 H5 (.inr rfl) z h1 h2) (fun h2=>hS.apart m n _ _ h4 h5 W8 (.inr rfl) z h1 h2)
   ·simp only [h6,h7,if_false]at h2;exact hS.apart m n _ _ F_ h5 h8 y_ z h1 h2
theorem Nt{s:Nat}{v x:Value}{n:E}{p:Part}{cs:List Value}(h:mu ρ s v x n p)(hv:World.views w v (n.den ρ 0).toNat cs):
  World.views w x (p.len.den ρ 0).toNat ((cs.drop ((p.lo.den ρ 0).toNat*s)).take ((p.len.den ρ 0).toNat*s)):=by
 obtain⟨h1,h2,h3,a,c,k,rfl,hc,rfl,hk⟩:=h;obtain⟨a',m,c',he,rfl,TO,l7,hr⟩:=hv;cases he;have L5:(p.lo.den ρ 0).toNat+(p.len.den ρ 0).toNat≤((p.mx.map fun m=>m.den ρ 0).map ag).getD c∨(p.len.den ρ 0).toNat=0:=by
  cases hm:(p.mx.map fun m=>m.den ρ 0)with
  | none=>simp only [Option.map_none,Option.getD_none];omega
  | some m=>have:=h3 m hm;simp only [Option.map_some,ahe];omega
 refine⟨_,_,_,rfl,rfl,by omega,?_,?_⟩
 ·intro hn;cases a with
  | none=>have:=l7 rfl;omega
  | some a=>cases hn
 ·intro ad had;rw [agz]at had;obtain⟨a0,rfl,rfl⟩:=had;obtain⟨hs,o8⟩:=hr a0 rfl;refine⟨fun _=>Nq _ _ (hs (by omega)),fun j u hu=>?_⟩;rw [List.getElem?_take]at hu;split at hu
  ·rename_i hj;have hN:(p.len.den ρ 0).toNat≠0:=by intro h;rw [h,Nat.zero_mul]at hj;omega
   rw [List.getElem?_drop]at hu;rw [hk (.inl (by omega)),dK];exact o8 _ _ hu
  ·cases hu
theorem Nu{s:Nat}{v x:Value}{n:E}{p:Part}(h:mu ρ s v x n p):x.ownBlock=v.ownBlock:=by
 obtain⟨h1,h2,h3,a,c,k,rfl,hc,rfl,hk⟩:=h;cases a with
 | none=>rfl
 | some a=>
  simp only [Option.map_some,Value.ownBlock,Addr.add];split<;>rfl
theorem jH{st dD:St}{x:SV}{md:Bool}{wr:Wrap}(hg:BF st x md=some (dD,wr))(h:HW Fs w0 st ρ w):
  ∃vcs jJ,wr= .cut vcs∧((∀b∈vcs,b.prop ρ)→HW Fs w0 dD (ρ.gI ⟨x.val ρ,jJ⟩) w)∧dD.fr=st.fr∧dD.nt=st.nt∧dD.fn=st.fn∧dD.aS={st.aS with v:=st.aS.v+1}∧
   ∃j md0 v0 t s n aA ck,st.hp[j]? =some (.cy md0 v0 t s n aA)∧dD.hp=st.hp.set j ck:=by
 unfold BF at hg;split at hg
 ·rename_i r hr;split at hg
  ·rename_i aA eU;split at hg
   ·rename_i hc;obtain⟨hw,J2,iX,vw⟩:=hc;cases hg;have jJ:(x.val ρ).oneCell'=true:=by
     have mY:=ρ.ok;cases x with
     | vv i=>exact mY.vvD i
     | ji v cs s=>exact oo _ _ _ _ (ρ.vv.getD v V1.nil).one
     | _=>simp [gJ]at hr
    obtain⟨S,hS⟩:=h.own;have dp:Reads st.hp ρ w S [r.j]:=by
     intro j _ ck hj;refine(hS.at_ j (ck.den ρ) ?_).1;rw [agC (by simpa using (agx.1 hj).1),List.getElem?_map,hj];rfl
    have hj:st.hp[r.j]? =some (.cy r.md r.v r.t r.s r.n r.aA):=by
     unfold gJ at hr;split at hr
     ·split at hr
      ·rename_i hf;cases hr;obtain⟨hj,ew⟩:=dr hf;simp only [Ck.nP,beq_iff_eq]at ew;subst ew;exact hj
      ·cases hr
     ·split at hr
      ·rename_i hf;split at hr
       ·rename_i hss;cases hr;obtain⟨hj,ew⟩:=dr hf;simp only [Ck.nP,beq_iff_eq]at ew;subst ew;exact hj
       ·cases hr
      ·cases hr
     ·cases hr
    refine⟨_,jJ,rfl,fun cu=>?_,rfl,rfl,rfl,rfl,r.j,_,_,_,_,_,_,_,hj,rfl⟩;obtain⟨v1,v2⟩:=bB cu;have v2:=bg v2;simp only [E.den]at v2;obtain⟨_,eu⟩:=fh hr dp v1;have hle:=Env.kb ρ ⟨x.val ρ,jJ⟩;have eV:=Env.Le.agree h.lens hle;have eL:st.aS.le {st.aS with v:=st.aS.v+1}:=by constructor<;>simp
    have Zn:=dp r.j (by simp) _ hj;refine⟨h.lens.gI _,cO eL h.lX,?_,fk eL h.oO,fun b hb=>(BE.gT eV (agv.1 h.oO b hb)).1 (h.kn b hb),?_,h.same,dz eL h.mP⟩
    ·refine agv.2 fun q hq=>?_
     rcases ag2 hq with hq | rfl
     ·exact Ck.bu eL (agv.1 h.gF q hq)
     ·simp only [Ck.sc,ai,agM];exact⟨⟨Nat.lt_succ_self _,E.bu eL iX⟩,jA eL vw⟩
    ·simp only [List.map_set];have J6:st.hp.map (Ck.den (ρ.gI ⟨x.val ρ,jJ⟩))=st.hp.map (Ck.den ρ):=(kX eV h.gF).symm;rw [J6];have AB:(Ck.cy md st.aS.v r.t r.s r.p.len aA).den (ρ.gI ⟨x.val ρ,jJ⟩)=aC md r.t r.s (x.val ρ) (r.p.len.den ρ 0).toNat (aI ρ (r.p.len.den ρ 0).toNat aA):=by
      simp only [Ck.den,eA ρ _ h.lens.v];rw [←E.b_ eV iX,←vi eV vw]
     rw [AB];obtain⟨e1,e2⟩:=j9 eu.lo eU;have h2:=eu.hi;have h1:=eu.lo;have fM:((aI ρ (r.n.den ρ 0).toNat r.aA).drop ((r.p.lo.den ρ 0).toNat*r.s)).take ((r.p.len.den ρ 0).toNat*r.s)=aI ρ (r.p.len.den ρ 0).toNat aA:=by
      rw [cK,hw,wh (dH ρ r.aA) _ _ _ (by omega),cK];exact cV fun i _=>(e2 i).symm
     refine aU.weaken hS r.j _ _ (by rw [List.getElem?_map,hj];rfl) (fun y_=>J2 y_) (fun k=>(x.val ρ).ownBlock=some k∧(md=true∨0<(r.p.len.den ρ 0).toNat)) (fun k hk=>?_) ⟨?_,fun k=>Iff.rfl⟩
     ·rw [Nu eu]at hk;refine(Zn.2 k).2 ⟨hk.1,hk.2.imp (fun h=>J2 h) fun h=>?_⟩;omega
     ·cases md with
      | true=>
       simp only [if_true];have cU:=Zn.1;rw [J2 rfl]at cU;simp only [if_true]at cU;have:=(rm eu v2 cU).1;rw [fM]at this;exact this
      | false=>
       simp only [Bool.false_eq_true,if_false];have:=Nt eu (D6 Zn).1;rw [fM]at this;refine⟨?_,this⟩;rw [dI,e1,←hw]
   ·cases hg
  ·cases hg
 ·cases hg
theorem QX{L:Nat→LC}: ∀{vcs:List BE} {f:F} {ρ:Env},VC P aq (vcF vcs f) ρ L→(∀b∈vcs,b.prop ρ)∧VC P aq f ρ L
 | [],f,ρ,h=>⟨by simp,h⟩
 | b::r,f,ρ,h=>by
  obtain⟨h1,h2⟩:=h;obtain⟨h3,h4⟩:=QX (h2 h1);exact⟨fun c hc=>(List.mem_cons.1 hc).elim (fun e=>e▸h1) (h3 c),h4⟩
theorem BP(hp:List Ck)(i j:Nat): ∃σ:Nat→Nat,(∀a b,σ a=σ b→a=b)∧(∀k,k<hp.length→σ k<hp.length)∧(∀k,hp.length≤k→σ k=k)∧∀k,(swapAt hp i j)[k]? =hp[σ k]? :=by
 unfold swapAt;split
 ·rename_i d c hi hj;have li:=(agx.1 hi).1;have lj:=(agx.1 hj).1;refine⟨fun k=>if k=i then j else if k=j then i else k,fun a b=>?_,fun k hk=>?_,fun k hk=>?_,fun k=>?_⟩
  ·simp only;split<;>split<;>(try split)<;>(try split)<;>omega
  ·simp only;split
   ·exact lj
   ·split
    ·exact li
    ·exact hk
  ·simp only;rw [if_neg (by omega),if_neg (by omega)]
  ·simp only [List.getElem?_set,List.length_set];by_cases h1:k=i
   ·subst h1;by_cases h2:j=k
    ·subst h2;simp [li];exact(agx.1 hi).2.symm
    ·rw [if_neg h2,if_pos rfl,if_pos rfl,if_pos li,hj]
   ·by_cases h2:k=j
    ·subst h2;rw [if_pos rfl,if_pos lj,if_neg h1,if_pos rfl,hi]
    ·rw [if_neg (fun e=>h2 e.symm),if_neg (fun e=>h1 e.symm),if_neg h1,if_neg h2]
 ·exact⟨fun k=>k,fun _ _ h=>h,fun _ h=>h,fun _ _=>rfl,fun _=>rfl⟩
theorem BQ(hp:List Ck)(i j:Nat):(swapAt hp i j).length=hp.length:=by
 unfold swapAt;split
 ·simp
 ·rfl
theorem QY{hp:List Ck}{i j:Nat}{p:Ck→Bool}(h:hp.all p=true):(swapAt hp i j).all p=true:=by
 obtain⟨σ,_,_,_,hg⟩:=BP hp i j;rw [agv]at h ⊢;intro x hx;obtain⟨k,hk⟩:=List.getElem?_of_mem hx;rw [hg]at hk;exact h x (List.mem_of_getElem? hk)
theorem QZ{hp:List Ck}{i j:Nat}{ρ:Env}{Fs:List HP}{w:World}(h:aU (hp.map (Ck.den ρ)++Fs) w):aU ((swapAt hp i j).map (Ck.den ρ)++Fs) w:=by
 obtain⟨σ,h1,h2,h3,h4⟩:=BP hp i j;refine h.tf (fun k=>some (σ k)) (fun k x hx=> .inr ⟨σ k,rfl,?_⟩) (fun a b c ha hb _ _=>h1 a b ?_)
 ·by_cases hk:k<hp.length
  ·rw [agC (by rw [List.length_map,BQ];exact hk),List.getElem?_map,h4]at hx;rw [agC (by rw [List.length_map];exact h2 k hk),List.getElem?_map];exact hx
  ·rw [agD (by rw [List.length_map,BQ];omega),List.length_map,BQ]at hx;rw [h3 k (by omega),agD (by rw [List.length_map];omega),List.length_map];exact hx
 ·rw [agy]at ha hb;rw [ha,hb]
theorem HH{T:List TI}{st dD:St}{x:tu}{wr:Wrap}{L:Nat→LC}{f:F}(hg:eo T st x=some (dD,wr))(h:HW Fs w0 st ρ w)(ha:HA st.fr st.nt ρ a)(hv:VC P aq (gn [wr] f) ρ L):
  ∃bI,Env.Le ρ bI∧HW Fs w0 dD bI w∧HA dD.fr dD.nt bI a∧dD.fn=st.fn∧VC P aq f bI L:=by
 cases wr with
 | nil=>
  obtain⟨g1,g2,g3,g4⟩:=Ns hg h ha;exact⟨_,Env.kb _ _,g1,g2,g4,hv⟩
 | same=>
  simp only [gn]at hv;cases x with
  | slot s t=>
   simp only [eo]at hg;split at hg
   ·rw [agz]at hg;obtain⟨_,_,he⟩:=hg;cases he
   ·cases hg
  | cell i j t=>
   simp only [eo]at hg;split at hg
   ·split at hg
    ·rw [agz]at hg;obtain⟨_,_,he⟩:=hg;cases he
    ·cases hg
   ·cases hg
  | cut s md=>
   simp only [eo]at hg;split at hg
   ·rw [agz]at hg;obtain⟨y,hy,he⟩:=hg;obtain⟨_,_,hw,_⟩:=jH (wr:=y.2) (dD:=y.1) hy h;simp only [ag_]at he;rw [he.2]at hw;cases hw
   ·cases hg
  | own s t=>
   simp only [eo]at hg;split at hg
   ·rw [agz]at hg;obtain⟨y,hy,he⟩:=hg;obtain⟨_,_,hw,_⟩:=og (wr:=y.2) (dD:=y.1) hy h;simp only [ag_]at he;rw [he.2]at hw;cases hw
   ·cases hg
  | wg i j md=>
   simp only [eo]at hg;split at hg
   ·split at hg
    ·split at hg
     ·rename_i s1 Xe hy;obtain⟨_,_,hw,_⟩:=jH hy h;split at hg
      ·split at hg
       ·simp only [agy,ag_]at hg;rw [hg.2]at hw;cases hw
       ·cases hg
      ·cases hg
     ·cases hg
    ·cases hg
   ·cases hg
  | marks=>simp [eo]at hg
  | mark=>
   simp only [eo]at hg;split at hg
   ·split at hg
    ·simp at hg
    ·cases hg
   ·simp only [agy,ag_,and_true]at hg;subst hg;exact⟨ρ,Env.Le.refl _,h,ha,rfl,hv⟩
   ·cases hg
  | swap s i=>
   simp only [eo]at hg;split at hg
   ·simp only [agy,ag_,and_true]at hg;subst hg;exact⟨ρ,Env.Le.refl _,⟨h.lens,h.lX,QY h.gF,h.oO,h.kn,QZ h.own,h.same,h.mP⟩,ha,rfl,hv⟩
   ·cases hg
 | rT=>
  simp only [gn,VC]at hv;cases x with
  | slot s t=>
   simp only [eo]at hg;split at hg
   ·rw [agz]at hg;obtain⟨_,_,he⟩:=hg;cases he
   ·cases hg
  | cell i j t=>
   simp only [eo]at hg;split at hg
   ·split at hg
    ·rw [agz]at hg;obtain⟨_,_,he⟩:=hg;cases he
    ·cases hg
   ·cases hg
  | cut s md=>
   simp only [eo]at hg;split at hg
   ·rw [agz]at hg;obtain⟨y,hy,he⟩:=hg;obtain⟨_,_,hw,_⟩:=jH (wr:=y.2) (dD:=y.1) hy h;simp only [ag_]at he;rw [he.2]at hw;cases hw
   ·cases hg
  | own s t=>
   simp only [eo]at hg;split at hg
   ·rw [agz]at hg;obtain⟨y,hy,he⟩:=hg;obtain⟨_,_,hw,_⟩:=og (wr:=y.2) (dD:=y.1) hy h;simp only [ag_]at he;rw [he.2]at hw;cases hw
   ·cases hg
  | wg i j md=>
   simp only [eo]at hg;split at hg
   ·split at hg
    ·split at hg
     ·rename_i s1 Xe hy;obtain⟨_,_,hw,_⟩:=jH hy h;split at hg
      ·split at hg
       ·simp only [agy,ag_]at hg;rw [hg.2]at hw;cases hw
       ·cases hg
      ·cases hg
     ·cases hg
    ·cases hg
   ·cases hg
  | marks=>
   simp only [eo,agy,ag_,and_true]at hg;subst hg;have hle:=Env.Fq ρ (pG []);have eV:=Env.Le.agree h.lens hle;have eL:st.aS.le {st.aS with b:=st.aS.b+1}:=by constructor<;>simp
   have hb:=ju ρ (pG []) h.lens.b;refine⟨_,hle,⟨h.lens.nG _,cO eL h.lX,?_,fk eL h.oO,fun b hb=>(BE.gT eV (agv.1 h.oO b hb)).1 (h.kn b hb),?_,h.same,?_⟩,?_,rfl,hv (pG [])⟩
   ·rw [List.all_append,ai];exact⟨i_ eL h.gF,by simp [Ck.sc]⟩
   ·rw [List.map_append];refine aU.add (h.BO hle) _ (fun _=>False) (Nat.le_refl _) (fun _ _=>rfl) ?_ (fun _ hk=>hk.elim);simp only [Ck.den,hb,pH];exact⟨by simp,by simp,by simp⟩
   ·rw [List.all_cons,ai];exact⟨by simp [MK.sc],dz eL h.mP⟩
   ·have vq:=ha.more h.lX h.mP eV;refine⟨?_,vq.size,vq.slots⟩;rw [vq.defers];simp only [marks,MK.blocks,List.flatMap_cons,hb,pH,List.nil_append]
  | mark=>
   simp only [eo]at hg;split at hg;rotate_left
   ·simp at hg
   ·cases hg
   rename_i b c ds IJ;split at hg;rotate_left
   ·cases hg
   rename_i i j hi hj;simp only [agy,ag_,and_true]at hg;subst hg;have oq:st.hp[i]? =some (.Mb b):=by
    rw [List.findIdx?_eq_some_iff_getElem]at hi;obtain⟨cZ,hd,_⟩:=hi;cases hc:st.hp[i]with
    | Mb b'=>
     rw [hc]at hd;simp only [Ck.D4,beq_iff_eq]at hd;subst hd;rw [ag6 cZ,hc]
    | _=>rw [hc]at hd;simp [Ck.D4]at hd
   have lW:st.hp[j]? =some (.qA c):=by
    rw [List.findIdx?_eq_some_iff_getElem]at hj;obtain⟨cZ,hd,_⟩:=hj;cases hc:st.hp[j]with
    | qA b'=>
     rw [hc]at hd;simp only [Ck.xF,beq_iff_eq]at hd;subst hd;rw [ag6 cZ,hc]
    | _=>rw [hc]at hd;simp [Ck.xF]at hd
   have UG:=h.mP;rw [IJ]at UG;simp only [List.all_cons,ai,MK.sc,agM]at UG;generalize hl:ρ.bv.getD b 0::qK (ρ.bv.getD c 0)=l;have hle:=Env.Fq ρ (pG l);have eV:=Env.Le.agree h.lens hle;have eL:st.aS.le {st.aS with b:=st.aS.b+1}:=by constructor<;>simp
   have hb:=ju ρ (pG l) h.lens.b;refine⟨_,hle,⟨h.lens.nG _,cO eL h.lX,?_,fk eL h.oO,fun b hb=>(BE.gT eV (agv.1 h.oO b hb)).1 (h.kn b hb),?_,h.same,?_⟩,?_,rfl,hv (pG l)⟩
   ·refine agv.2 fun q hq=>?_
    rcases ag2 hq with hq | rfl
    ·rcases ag2 hq with hq | rfl
     ·exact Ck.bu eL (agv.1 h.gF q hq)
     ·rfl
    ·simp [Ck.sc]
   ·have ho:=h.BO hle;rw [List.map_set,List.map_set];have e1:(st.hp.map (Ck.den (ρ.nG (pG l))))[i]? =some (zN (ρ.bv.getD b 0)):=by
     rw [List.getElem?_map,oq,Option.map_some,Ck.den,←eV.b b UG.1]
    have e2:(st.hp.map (Ck.den (ρ.nG (pG l))))[j]? =some (l5 (qK (ρ.bv.getD c 0))):=by
     rw [List.getElem?_map,lW,Option.map_some,Ck.den,←eV.b c UG.2.1]
    have:=ho.HG e1 e2 (by rintro rfl;rw [oq]at lW;cases lW);rw [hl]at this;rw [show(Ck.qA st.aS.b).den (ρ.nG (pG l))=l5 l by simp only [Ck.den,hb,pH]];exact this
   ·rw [List.all_cons,ai];exact⟨by simp [MK.sc],dz eL UG.2.2⟩
   ·have vq:=ha.more h.lX h.mP eV;refine⟨?_,vq.size,vq.slots⟩;rw [ha.defers,IJ];rw [show marks ρ (.one b:: .many c::ds)=l.map (fun b=>{target:= .collected b,args:= #[]})++marks ρ ds by simp [marks,MK.blocks,←hl],vA eV UG.2.2];simp only [marks,MK.blocks,List.flatMap_cons,hb,pH,List.map_append]
  | swap s i=>
   simp only [eo]at hg;split at hg
   ·simp at hg
   ·cases hg
 | cut vcs=>
  simp only [gn]at hv;obtain⟨cu,hv⟩:=QX hv;simp only [VC]at hv;cases x with
  | slot s t=>
   simp only [eo]at hg;split at hg
   ·rw [agz]at hg;obtain⟨_,_,he⟩:=hg;cases he
   ·cases hg
  | cell i j t=>
   simp only [eo]at hg;split at hg
   ·split at hg
    ·rw [agz]at hg;obtain⟨_,_,he⟩:=hg;cases he
    ·cases hg
   ·cases hg
  | cut s md=>
   simp only [eo]at hg;split at hg
   ·rename_i x hl;rw [agz]at hg;obtain⟨⟨s1,Xe⟩,hy,he⟩:=hg;cases he;obtain⟨Zo,jJ,y_,hHW,e1,e2,e3,e4,_⟩:=jH hy h;cases y_;have h1:=hHW cu;have hle:=Env.kb ρ ⟨x.val ρ,jJ⟩;have eV:=Env.Le.agree h.lens hle;have vq:=ha.more h.lX h.mP eV;have xV:(SV.vv st.aS.v).sc s1.aS=true:=by rw [e4];simp [SV.sc]
    refine⟨_,hle,h1.put xV,⟨by rw [(eF _ _ _).2.2.2.1,e2];exact vq.defers,by rw [(eF _ _ _).2.2.2.1,e2];exact ha.size,fun q v hq=>?_⟩,by rw [(eF _ _ _).2.2.2.2,e3],hv _⟩;simp only [St.put]at hq;unfold look at hq;split at hq
    ·rename_i Lq;rw [beq_iff_eq]at Lq;subst Lq;cases hq;rw [ha.slots _ _ hl];simp only [SV.val,eA ρ _ h.lens.v]
    ·rename_i Lq;rw [od s _ q (fun e=>Lq (by simp [e])),e1]at hq;exact vq.slots q v hq
   ·cases hg
  | own s t=>
   simp only [eo]at hg;split at hg
   ·rename_i x hl;rw [agz]at hg;obtain⟨⟨s1,Xe⟩,hy,he⟩:=hg;cases he;obtain⟨Zo,jJ,y_,h1,e1,e2,e3,e4⟩:=og hy h;cases y_;have hle:=Env.kb ρ ⟨x.val ρ,jJ⟩;have eV:=Env.Le.agree h.lens hle;have vq:=ha.more h.lX h.mP eV;have xV:(SV.vv st.aS.v).sc s1.aS=true:=by rw [e4];simp [SV.sc]
    refine⟨_,hle,h1.put xV,⟨by rw [(eF _ _ _).2.2.2.1,e2];exact vq.defers,by rw [(eF _ _ _).2.2.2.1,e2];exact ha.size,fun q v hq=>?_⟩,by rw [(eF _ _ _).2.2.2.2,e3],hv _⟩;simp only [St.put]at hq;unfold look at hq;split at hq
    ·rename_i Lq;rw [beq_iff_eq]at Lq;subst Lq;cases hq;rw [ha.slots _ _ hl];simp only [SV.val,eA ρ _ h.lens.v]
    ·rename_i Lq;rw [od s _ q (fun e=>Lq (by simp [e])),e1]at hq;exact vq.slots q v hq
   ·cases hg
  | wg i j md=>
   simp only [eo]at hg;split at hg
   ·rename_i b wr cs hi;split at hg
    ·rename_i x hj;split at hg
     ·rename_i s1 Xe hy;obtain⟨Zo,jJ,y_,hHW,e1,e2,e3,e4,jj,md0,v0,t0,s0,n0,Zd,ck,e5,e6⟩:=jH hy h;split at hg
      ·rename_i b' w' wG oq;split at hg
       ·cases hg;cases y_;have h1:=hHW cu;have hle:=Env.kb ρ ⟨x.val ρ,jJ⟩;have eV:=Env.Le.agree h.lens hle;have vq:=ha.more h.lX h.mP eV;have xV:(SV.vv st.aS.v).sc s1.aS=true:=by rw [e4];simp [SV.sc]
        have eJ:jj≠i:=by
         intro e;subst e;rw [hi]at e5;cases e5
        have DF:s1.hp[i]? =some (.row b wr cs):=by
         rw [e6,agX eJ];exact hi
        have J7:=agv.1 h1.gF _ (List.mem_of_getElem? DF);simp only [Ck.sc,ai]at J7;have Ig:x.sc st.aS=true:=by
         have:=agv.1 h.gF _ (List.mem_of_getElem? hi);simp only [Ck.sc,ai]at this;have key: ∀{l:List SV} {k:Nat} {y:SV},SV.qz st.aS l=true→l[k]? =some y→y.sc st.aS=true:=by
          intro l
          induction l with
          | nil=>intro k y _ hy;simp at hy
          | cons z r ih=>
           intro k y hl hy;simp only [SV.qz,ai]at hl;cases k with
           | zero=>simp at hy;subst hy;exact hl.1
           | succ k=>exact ih hl.2 (by simpa using hy)
         exact key this.2 hj
        have Vb:x.plain=true:=by
         unfold BF at hy;split at hy
         ·rename_i r hr;cases x<;>first | rfl | simp [gJ]at hr
         ·cases hy
        have AB:(Ck.row b wr (cs.set j (.vv st.aS.v))).den (ρ.gI ⟨x.val ρ,jJ⟩)=(Ck.row b wr cs).den (ρ.gI ⟨x.val ρ,jJ⟩):=by
         simp only [Ck.den];rw [uE hj];rw [gY _ Vb,←(SV.wU eV Ig).1];simp only [SV.cells,eA ρ _ h.lens.v]
        have J6:(s1.hp.set i (.row b wr (cs.set j (.vv st.aS.v)))).map (Ck.den (ρ.gI ⟨x.val ρ,jJ⟩))=s1.hp.map (Ck.den (ρ.gI ⟨x.val ρ,jJ⟩)):=by
         rw [List.map_set,AB];apply List.ext_getElem?;intro q;rw [List.getElem?_set];split
         ·rename_i hq;subst hq;split
          ·rw [List.getElem?_map,DF];rfl
          ·rename_i cZ;rw [ag7 (by omega)]
         ·rfl
        refine⟨_,hle,⟨h1.lens,h1.lX,?_,h1.oO,h1.kn,by rw [J6];exact h1.own,h1.same,h1.mP⟩,⟨by rw [e2];exact vq.defers,by rw [e2];exact ha.size,by rw [e1];exact vq.slots⟩,e3,hv _⟩;refine agv.2 fun q hq=>?_
        rcases ag2 hq with hq | rfl
        ·exact agv.1 h1.gF q hq
        ·simp only [Ck.sc,ai];exact⟨J7.1,Ft J7.2 xV⟩
       ·cases hg
      ·cases hg
     ·cases hg
    ·cases hg
   ·cases hg
  | marks=>simp [eo]at hg
  | mark=>
   simp only [eo]at hg;split at hg
   ·split at hg
    ·simp at hg
    ·cases hg
   ·simp at hg
   ·cases hg
  | swap s i=>
   simp only [eo]at hg;split at hg
   ·simp at hg
   ·cases hg
theorem Fu(x:Wrap)(r:List Wrap)(f:F):gn (x::r) f=gn [x] (gn r f):=by cases x<;>rfl
theorem ke{T:List TI}{L:Nat→LC}{f:F}: ∀{xs:List tu} {st dD:St} {n:List Wrap} {ρ:Env},uD T st xs=some (dD,n)→HW Fs w0 st ρ w→HA st.fr st.nt ρ a→VC P aq (gn n f) ρ L→
  ∃bI,Env.Le ρ bI∧HW Fs w0 dD bI w∧HA dD.fr dD.nt bI a∧dD.fn=st.fn∧VC P aq f bI L
 | [],st,dD,n,ρ,h,hw,ha,hv=>by
  simp only [uD,agy,ag_]at h;obtain⟨rfl,rfl⟩:=h;exact⟨ρ,Env.Le.refl _,hw,ha,rfl,hv⟩
 | x::xs,st,dD,n,ρ,h,hw,ha,hv=>by
  unfold uD at h;split at h
  ·rename_i s1 h1;split at h
   ·rename_i s2 k h2;simp only [agy,ag_]at h;obtain⟨rfl,rfl⟩:=h;rw [Fu]at hv;obtain⟨sj,g0,g1,g2,g4,g5⟩:=HH h1 hw ha hv;obtain⟨bI,q1,q2,q3,q5,q6⟩:=ke h2 g1 g2 g5;exact⟨bI,g0.trans q1,q2,q3,q5.trans g4,q6⟩
   ·cases h
  ·cases h
end
end Go.RX
