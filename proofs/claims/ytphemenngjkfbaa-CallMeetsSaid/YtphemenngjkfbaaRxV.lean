/- Executor. -/
import Derived.Test.YtphemenngjkfbaaRxU
open Bool renaming and_eq_true → ai
open Int renaming toNat → ag
open List renaming all_eq_true → adI, getElem?_append_left → adO, getElem?_append_right → adQ, getElem?_eq_getElem → ad9, getElem?_eq_none → aeh, getElem?_eq_some_iff → adJ, getElem?_set_ne → ad_, mem_or_eq_of_mem_set → aee
open Nat renaming blt_eq → adX
open Option renaming getD_some → aes, map_eq_some_iff → adM
open Option.some renaming injEq → adK
open Prod.mk renaming injEq → aek
namespace Go.RX
section
variable {P:Program} {C:Ctx} {ao:Value→List HP→Prop} {Fs:List HP} {w0:World} {ρ:Env} {a:Act} {w:World}
theorem Env.CS(ρ:Env)(b:Nat):Env.Le ρ (ρ.mz b):=by rw [Env.PL];exact Env.gi _ _
theorem Env.jv(ρ:Env)(v:V1):Env.Le ρ (ρ.gb v):=by rw [Env.PM];exact Env.gi _ _
theorem gg.mz{c:cz}(h:gg ρ c)(b:Nat):gg (ρ.mz b) {c with b:=c.b+1}:=
 ⟨by simp [Env.mz,h.b],h.v,h.i,h.a,h.bo,h.p,h.r⟩
theorem gg.gb{c:cz}(h:gg ρ c)(v:V1):gg (ρ.gb v) {c with v:=c.v+1}:=
 ⟨h.b,by simp [Env.gb,h.v],h.i,h.a,h.bo,h.p,h.r⟩
theorem dP(ρ:Env)(v:V1){n:Nat}(h:ρ.vv.length=n):(ρ.gb v).vv.getD n V1.nil=v:=by
 subst h;simp [Env.gb]
theorem iK(ρ:Env)(b:Nat){n:Nat}(h:ρ.bv.length=n):(ρ.mz b).bv.getD n 0=b:=by
 subst h;simp [Env.mz]
theorem sS{ρ:Env}: ∀{cs:List SV} {j:Nat} {x y:SV},cs[j]? =some x→SV.cells ρ y=SV.cells ρ x→SV.ar ρ (cs.set j y)=SV.ar ρ cs
 | [],j,x,y,h,_=>by simp at h
 | c::cs,0,x,y,h,e=>by
  simp only [List.getElem?_cons_zero,adK]at h;subst h;simp only [List.set_cons_zero,SV.ar,e]
 | c::cs,j+1,x,y,h,e=>by
  simp only [List.getElem?_cons_succ]at h;simp only [List.set_cons_succ,SV.ar,sS h e]
theorem CT{c:cz}: ∀{cs:List SV} {j:Nat} {y:SV},SV.pw c cs=true→y.sc c=true→SV.pw c (cs.set j y)=true
 | [],j,y,h,_=>by simpa using h
 | x::cs,0,y,h,e=>by
  simp only [SV.pw,ai]at h;simp only [List.set_cons_zero,SV.pw,ai];exact⟨e,h.2⟩
 | x::cs,j+1,y,h,e=>by
  simp only [SV.pw,ai]at h;simp only [List.set_cons_succ,SV.pw,ai];exact⟨h.1,CT h.2 e⟩
theorem HW.zQ{st:St}{bC:Env}(h:HW Fs w0 st ρ w)(hle:Env.Le ρ bC):bd (st.hp.map (Ck.den bC)++Fs) w:=by
 rw [←jP (Env.Le.agree h.lens hle) h.fg];exact h.own
theorem wz{T:List TI}{st df:St}{t:Nat}(hg:Ja T st t=some df)(h:HW Fs w0 st ρ w):
  HW Fs w0 df (ρ.gb ⟨.slice none 0 0,rfl⟩) w∧df.fr=st.fr∧df.nt=st.nt∧df.fn=st.fn∧df.aQ={st.aQ with v:=st.aQ.v+1}∧∃ck,df.hp=st.hp++[ck]:=by
 unfold Ja at hg;split at hg
 ·rename_i ti aA cN ew;split at hg
  ·rename_i iM;cases hg;have hle:=Env.jv ρ ⟨.slice none 0 0,rfl⟩;have dZ:st.aQ.le {st.aQ with v:=st.aQ.v+1}:=by constructor<;>simp
   refine⟨⟨h.lens.gb _,cD dZ h.kz,?_,eO dZ h.nE,fun b hb=>?_,?_,h.same,c_ dZ h.lu⟩,rfl,rfl,rfl,rfl,_,rfl⟩
   ·rw [List.all_append,ai];refine⟨im dZ h.fg,?_⟩;simp only [List.all_cons,List.all_nil,Ck.sc,E.sc,Bool.and_true,ai,adX];exact⟨Nat.lt_succ_self _,iP dZ iM⟩
   ·exact(BE.gn (Env.Le.agree h.lens hle) (adI.1 h.nE b hb)).1 (h.kn b hb)
   ·rw [List.map_append];refine bd.add (h.zQ hle) _ (fun _=>False) (Nat.le_refl _) (fun _ _=>rfl) ?_ (fun _ hk=>hk.elim);simp only [Ck.den,dP ρ _ h.lens.v];refine⟨?_,fun k=>by simp [Value.ownBlock]⟩;simp only [if_true];exact lG w t ti.size
  ·cases hg
 ·cases hg
theorem bd.weaken{a b:List HP}{w:World}{S:Nat→Nat→Prop}(h:Sep (a++b) S w)(i:Nat)(h0 h':HP)(hi:a[i]? =some h0)(hw:h'.wr=true→h0.wr=true)
  (S':Nat→Prop) (dL: ∀k,S' k→S i k) (hp:h'.p w S'):bd (a.set i h'++b) w:=by
 have cK:i<a.length:=(adJ.1 hi).1;have nH:(a++b)[i]? =some h0:=by rw [adO cK];exact hi
 have hold: ∀(j:Nat) x,(a.set i h'++b)[j]? =some x→∃y,(a++b)[j]? =some y∧(x.wr=true→y.wr=true)∧(j≠i→x=y)∧(j=i→x=h'):=by
  intro j x hx;by_cases hj:j=i
  ·subst hj;rw [adO (by simpa using cK),List.getElem?_set_self cK]at hx;cases hx;exact⟨h0,nH,hw,fun h=>absurd rfl h,fun _=>rfl⟩
  ·refine⟨x,?_,id,fun _=>rfl,fun h=>absurd h hj⟩;by_cases TA:j<a.length
   ·rw [adO (by simpa using TA),ad_ (Ne.symm hj)]at hx;rw [adO TA];exact hx
   ·rw [adQ (by simp;omega),List.length_set]at hx;rw [adQ (by omega)];exact hx
 have ON: ∀j k,(if j=i then S' k else S j k)→S j k:=by
  intro j k hk;split at hk
  ·rename_i hj;subst hj;exact dL k hk
  ·exact hk
 refine⟨fun j k=>if j=i then S' k else S j k,⟨fun j x hx=>?_,fun j k x y fc hx hy wW q h1 h2=>?_⟩⟩
 ·obtain⟨y,hy,_,h1,h2⟩:=hold j x hx;obtain⟨hpy,hb⟩:=h.at_ j y hy;refine⟨?_,fun k hk=>hb k (ON j k hk)⟩;by_cases hj:j=i
  ·subst hj;rw [h2 rfl];simp only [if_true];exact hp
  ·rw [h1 hj];simp only [hj,if_false];exact hpy
 ·obtain⟨x',T5,wx,_,_⟩:=hold j x hx;obtain⟨y',T6,wy,_,_⟩:=hold k y hy;exact h.apart j k x' y' fc T5 T6 (wW.imp wx wy) q (ON j q h1) (ON k q h2)
theorem m9{st df:St}{x:SV}{ty:Nat}{wr:zF}(hg:OG st x ty=some (df,wr))(h:HW Fs w0 st ρ w):
  ∃vcs iV,wr= .cut vcs∧HW Fs w0 df (ρ.gb ⟨x.val ρ,iV⟩) w∧df.fr=st.fr∧df.nt=st.nt∧df.fn=st.fn∧df.aQ={st.aQ with v:=st.aQ.v+1}:=by
 unfold OG at hg;split at hg
 case h_2=>cases hg
 rename_i b ix s n m;split at hg
 case h_2=>cases hg
 rename_i j b' cs q PA Yo hn;split at hg
 case h_2=>cases hg
 rename_i ki kl a JR;split at hg
 case isFalse=>cases hg
 rename_i hc;obtain⟨rfl,rfl,hq,Me,Xo,hsa⟩:=hc;cases hg;have U2:n.den ρ 0=(q:Int):=cA (ρ:=ρ) hn;have U3:ix.den ρ 0=((0:Nat):Int):=cA (ρ:=ρ) Yo;have Gu:(SV.sl b ix 1 n n).val ρ= .slice (some ⟨ρ.bv.getD b 0,0,none⟩) q q:=by simp [SV.val,U2,U3]
 obtain⟨hj,dM⟩:=cP PA;simp only [Ck.rh,beq_iff_eq]at dM;subst dM;obtain⟨S,hS⟩:=h.own;have cU:Reads st.hp ρ w S [j]:=by
  intro j _ ck hj;refine(hS.at_ j (ck.den ρ) ?_).1;rw [adO (by simpa using (adJ.1 hj).1),List.getElem?_map,hj];rfl
 have Wc:=cU j (by simp) _ hj;have fl:SV.ar ρ cs=al ki q (a.den ρ):=by
  have PJ:=gy (ρ:=ρ) JR;rw [Me,List.length_replicate,ov]at PJ;exact PJ
 have hlen:(SV.ar ρ cs).length=q:=by rw [fl,aE]
 have PC:(ak (ρ.bv.getD b 0) true (SV.ar ρ cs)).p w (S j):=Wc;have cE:=DZ (t:=ty) PC (by rw [hlen];unfold maxLen;omega);rw [hlen,fl]at cE;refine⟨[],by rw [Gu];rfl,rfl,?_,rfl,rfl,rfl,rfl⟩;have iV:((SV.sl b ix 1 n n).val ρ).oneCell'=true:=by rw [Gu];rfl
 have hle:=Env.jv ρ ⟨(SV.sl b ix 1 n n).val ρ,iV⟩;have ey:=Env.Le.agree h.lens hle;have dZ:st.aQ.le {st.aQ with v:=st.aQ.v+1}:=by constructor<;>simp
 refine⟨h.lens.gb _,cD dZ h.kz,?_,eO dZ h.nE,fun b hb=>(BE.gn ey (adI.1 h.nE b hb)).1 (h.kn b hb),?_,h.same,c_ dZ h.lu⟩
 ·refine adI.2 fun z hz=>?_
  rcases aee hz with hz | rfl
  ·exact Ck.bg dZ (adI.1 h.fg z hz)
  ·simp only [Ck.sc,ai,adX,List.all_cons,List.all_nil,bV.sc,CK.sc,E.sc,and_true];exact⟨Nat.lt_succ_self _,E.bg dZ hsa⟩
 ·simp only [List.map_set];have HS:st.hp.map (Ck.den (ρ.gb ⟨(SV.sl b ix 1 n n).val ρ,iV⟩))=st.hp.map (Ck.den ρ):=(jP ey h.fg).symm;rw [HS];have yG:(Ck.cc true st.aQ.v ty 1 (.lit (q:Int)) [⟨.int ki,1,a⟩]).den (ρ.gb ⟨(SV.sl b ix 1 n n).val ρ,iV⟩)=aB true ty 1 (.slice (some ⟨ρ.bv.getD b 0,0,none⟩) q q) q (al ki q (a.den ρ)):=by
   simp only [Ck.den,dP ρ _ h.lens.v];rw [dR,←E.bR ey hsa];have Yq: ∀r:Env,((E.lit (q:Int)).den r 0).toNat=q:=fun r=>by show ag (q:Int)=q;omega
   rw [Yq,Gu]
  rw [yG];refine bd.weaken hS j _ _ (by rw [List.getElem?_map,hj];rfl) (fun _=>rfl) (fun k=>(Value.slice (some ⟨ρ.bv.getD b 0,0,none⟩) q q).ownBlock=some k∧(true=true∨0<q)) (fun k hk=>?_) ⟨?_,fun k=>Iff.rfl⟩
  ·refine(PC.1 k).2 ?_;have:=hk.1;simp only [Value.ownBlock,adK]at this
   first | exact this.symm | exact this
  ·simp only [if_true];exact cE
theorem Ln{T:List TI}{st df:St}{x:rQ}(hg:dK T st x=some (df,.nil))(h:HW Fs w0 st ρ w)(ha:HA st.fr st.nt ρ a):
  HW Fs w0 df (ρ.gb ⟨.slice none 0 0,rfl⟩) w∧HA df.fr df.nt (ρ.gb ⟨.slice none 0 0,rfl⟩) a∧df.nt=st.nt∧df.fn=st.fn:=by
 have hle:=Env.jv ρ ⟨.slice none 0 0,rfl⟩;have ey:=Env.Le.agree h.lens hle;have tJ:=ha.more h.kz h.lu ey;cases x with
 | slot s t=>
  simp only [dK]at hg;split at hg
  ·rename_i hl;rw [adM]at hg;obtain⟨s1,je,rn⟩:=hg;cases rn;obtain⟨h1,e1,e2,e3,e4,ck,e5⟩:=wz je h;have hv:(SV.vv st.aQ.v).sc s1.aQ=true:=by rw [e4];simp [SV.sc]
   refine⟨h1.put hv,⟨by rw [(dU _ _ _).2.2.2.1,e2];exact tJ.defers,by rw [(dU _ _ _).2.2.2.1,e2];exact ha.size,fun q v hq=>?_⟩,by rw [(dU _ _ _).2.2.2.1,e2],by rw [(dU _ _ _).2.2.2.2,e3]⟩;simp only [St.put]at hq;unfold look at hq;split at hq
   ·rename_i Jg;rw [beq_iff_eq]at Jg;subst Jg;cases hq;rw [ha.aV _ _ hl];simp only [SV.val,dP ρ _ h.lens.v]
   ·rename_i Jg;rw [m7 s _ q (fun e=>Jg (by simp [e])),e1]at hq;exact tJ.aV q v hq
  ·cases hg
 | cell i j t=>
  simp only [dK]at hg;split at hg
  ·rename_i b wr cs hi;split at hg
   ·rename_i hj;rw [adM]at hg;obtain⟨s1,je,rn⟩:=hg;cases rn;obtain⟨h1,e1,e2,e3,e4,ck,e5⟩:=wz je h;have hv:(SV.vv st.aQ.v).sc s1.aQ=true:=by rw [e4];simp [SV.sc]
    have nH:s1.hp[i]? =some (.row b wr cs):=by
     rw [e5,adO (adJ.1 hi).1];exact hi
    have HT:=adI.1 h1.fg _ (List.mem_of_getElem? nH);simp only [Ck.sc,ai]at HT;have yG:(Ck.row b wr (cs.set j (.vv st.aQ.v))).den (ρ.gb ⟨.slice none 0 0,rfl⟩)=(Ck.row b wr cs).den (ρ.gb ⟨.slice none 0 0,rfl⟩):=by
     simp only [Ck.den];rw [sS hj];simp only [SV.cells,dP ρ _ h.lens.v]
    have HS:(s1.hp.set i (.row b wr (cs.set j (.vv st.aQ.v)))).map (Ck.den (ρ.gb ⟨.slice none 0 0,rfl⟩))=s1.hp.map (Ck.den (ρ.gb ⟨.slice none 0 0,rfl⟩)):=by
     rw [List.map_set,yG];apply List.ext_getElem?;intro q;rw [List.getElem?_set];split
     ·rename_i hq;subst hq;split
      ·rw [List.getElem?_map,nH];rfl
      ·rename_i cK;rw [aeh (by omega)]
     ·rfl
    refine⟨⟨h1.lens,h1.kz,?_,h1.nE,h1.kn,by rw [HS];exact h1.own,h1.same,h1.lu⟩,⟨by rw [e2];exact tJ.defers,by rw [e2];exact ha.size,by rw [e1];exact tJ.aV⟩,e2,e3⟩;refine adI.2 fun q hq=>?_
    rcases aee hq with hq | rfl
    ·exact adI.1 h1.fg q hq
    ·simp only [Ck.sc,ai];exact⟨HT.1,CT HT.2 hv⟩
   ·cases hg
  ·cases hg
 | cut s md=>
  simp only [dK]at hg;split at hg
  ·rw [adM]at hg;obtain⟨y,hy,he⟩:=hg;exfalso;unfold zG at hy;split at hy
   ·split at hy
    ·split at hy
     ·cases hy;cases he
     ·cases hy
    ·cases hy
   ·cases hy
  ·cases hg
 | own s t=>
  simp only [dK]at hg;split at hg
  ·rw [adM]at hg;obtain⟨y,hy,he⟩:=hg;exfalso;obtain⟨_,_,hw,_⟩:=m9 (wr:=y.2) (df:=y.1) hy h;simp only [aek]at he;rw [he.2]at hw;cases hw
  ·cases hg
 | uh i j md=>
  simp only [dK]at hg;split at hg
  ·split at hg
   ·split at hg
    ·rename_i ld Up hy;exfalso;have:Up≠ .nil:=by
      unfold zG at hy;split at hy
      ·split at hy
       ·split at hy
        ·cases hy;simp
        ·cases hy
       ·cases hy
      ·cases hy
     split at hg
     ·split at hg
      ·simp only [adK,aek]at hg;exact this hg.2
      ·cases hg
     ·cases hg
    ·cases hg
   ·cases hg
  ·cases hg
 | marks=>simp [dK]at hg
 | mark=>
  simp only [dK]at hg;split at hg
  ·split at hg
   ·simp at hg
   ·cases hg
  ·simp at hg
  ·cases hg
 | swap s i=>
  simp only [dK]at hg;split at hg
  ·simp at hg
  ·cases hg
theorem bd.FE{a b:List HP}{w:World}{i j k:Nat}{l:List Nat}(h:bd (a++b) w)(hi:a[i]? =some (xO k))(hj:a[j]? =some (kF l))(CX:i≠j):
  bd ((a.set i HP.emp).set j (kF (k::l))++b) w:=by
 obtain⟨S,hS⟩:=h;have CZ:i<a.length:=(adJ.1 hi).1;have Ud:j<a.length:=(adJ.1 hj).1;have Jd:(a++b)[i]? =some (xO k):=by rw [adO CZ];exact hi
 have XD:(a++b)[j]? =some (kF l):=by rw [adO Ud];exact hj
 obtain⟨⟨p1,p2⟩,p3⟩:=hS.at_ i _ Jd;obtain⟨⟨q1,q2,q3⟩,q4⟩:=hS.at_ j _ XD;have O6:w.heap[k]? =some (.deferred (some [])):=p2;have hap: ∀x,S i x→¬S j x:=hS.apart i j _ _ CX Jd XD (.inl rfl);have T9: ∀(m:Nat) x,((a.set i HP.emp).set j (kF (k::l))++b)[m]? =some x→(m=i∧x=HP.emp)∨(m=j∧x=kF (k::l))∨(m≠i∧m≠j∧(a++b)[m]? =some x):=by
  intro m x hx;by_cases XE:m<a.length
  ·rw [adO (by simpa using XE)]at hx;by_cases ZV:m=j
   ·subst ZV;rw [List.getElem?_set_self (by simpa using XE)]at hx;cases hx;exact .inr (.inl ⟨rfl,rfl⟩)
   ·rw [ad_ (Ne.symm ZV)]at hx;by_cases ZW:m=i
    ·subst ZW;rw [List.getElem?_set_self XE]at hx;cases hx;exact .inl ⟨rfl,rfl⟩
    ·rw [ad_ (Ne.symm ZW)]at hx;exact .inr (.inr ⟨ZW,ZV,by rw [adO XE];exact hx⟩)
  ·rw [adQ (by simp;omega)]at hx;simp only [List.length_set]at hx;exact .inr (.inr ⟨by omega,by omega,by rw [adQ (by omega)];exact hx⟩)
 refine⟨fun m x=>if m=i then False else if m=j then S i x∨S j x else S m x,⟨fun m x hx=>?_,fun m n x y DU hx hy wW z h1 h2=>?_⟩⟩
 ·rcases T9 m x hx with⟨rfl,rfl⟩ | ⟨rfl,rfl⟩ | ⟨h1,h2,h3⟩
  ·simp only [if_true];exact⟨fun _ h=>h,fun _ h=>h.elim⟩
  ·simp only [Ne.symm CX,if_false,if_true];refine⟨⟨fun x=>?_,?_,fun b hb=>?_⟩,fun x hx=>hx.elim (p3 x) (q4 x)⟩
   ·simp only [p1,q1,List.mem_cons]
   ·exact List.nodup_cons.2 ⟨fun hk=>hap k ((p1 k).2 rfl) ((q1 k).2 hk),q2⟩
   ·rcases List.mem_cons.1 hb with rfl | hb
    ·exact O6
    ·exact q3 b hb
  ·simp only [h1,h2,if_false];exact hS.at_ m x h3
 ·rcases T9 m x hx with⟨rfl,rfl⟩ | ⟨rfl,rfl⟩ | ⟨h3,h4,h5⟩
  ·simp only [if_true]at h1
  ·simp only [Ne.symm CX,if_false,if_true]at h1;rcases T9 n y hy with⟨rfl,rfl⟩ | ⟨rfl,rfl⟩ | ⟨h6,h7,h8⟩
   ·simp only [if_true]at h2
   ·exact DU rfl
   ·simp only [h6,h7,if_false]at h2;exact h1.elim (fun h1=>hS.apart i n _ _ (Ne.symm h6) Jd h8 (.inl rfl) z h1 h2) (fun h1=>hS.apart m n _ _ (Ne.symm h7) XD h8 (.inl rfl) z h1 h2)
  ·simp only [h3,h4,if_false]at h1;rcases T9 n y hy with⟨rfl,rfl⟩ | ⟨rfl,rfl⟩ | ⟨h6,h7,h8⟩
   ·simp only [if_true]at h2
   ·simp only [Ne.symm CX,if_false,if_true]at h2;exact h2.elim (fun h2=>hS.apart m i _ _ h3 h5 Jd (.inr rfl) z h1 h2) (fun h2=>hS.apart m n _ _ h4 h5 XD (.inr rfl) z h1 h2)
   ·simp only [h6,h7,if_false]at h2;exact hS.apart m n _ _ DU h5 h8 wW z h1 h2
theorem Lo{s:Nat}{v x:Value}{n:E}{p:Part}{cs:List Value}(h:kM ρ s v x n p)(hv:World.views w v (n.den ρ 0).toNat cs):
  World.views w x (p.len.den ρ 0).toNat ((cs.drop ((p.lo.den ρ 0).toNat*s)).take ((p.len.den ρ 0).toNat*s)):=by
 obtain⟨h1,h2,h3,a,c,k,rfl,hc,rfl,hk⟩:=h;obtain⟨a',m,c',he,rfl,Q_,kG,hr⟩:=hv;cases he;have JN:(p.lo.den ρ 0).toNat+(p.len.den ρ 0).toNat≤((p.mx.map fun m=>m.den ρ 0).map ag).getD c∨(p.len.den ρ 0).toNat=0:=by
  cases hm:(p.mx.map fun m=>m.den ρ 0)with
  | none=>simp only [Option.map_none,Option.getD_none];omega
  | some m=>have:=h3 m hm;simp only [Option.map_some,aes];omega
 refine⟨_,_,_,rfl,rfl,by omega,?_,?_⟩
 ·intro hn;cases a with
  | none=>have:=kG rfl;omega
  | some a=>cases hn
 ·intro ad ry;rw [adM]at ry;obtain⟨a0,rfl,rfl⟩:=ry;obtain⟨hs,nP⟩:=hr a0 rfl;refine⟨fun _=>Ll _ _ (hs (by omega)),fun j u hu=>?_⟩;rw [List.getElem?_take]at hu;split at hu
  ·rename_i hj;have hN:(p.len.den ρ 0).toNat≠0:=by intro h;rw [h,Nat.zero_mul]at hj;omega
   rw [List.getElem?_drop]at hu;rw [hk (.inl (by omega)),dr];exact nP _ _ hu
  ·cases hu
theorem Lp{s:Nat}{v x:Value}{n:E}{p:Part}(h:kM ρ s v x n p):x.ownBlock=v.ownBlock:=by
 obtain⟨h1,h2,h3,a,c,k,rfl,hc,rfl,hk⟩:=h;cases a with
 | none=>rfl
 | some a=>
  simp only [Option.map_some,Value.ownBlock,Addr.add];split<;>rfl
theorem iU{st df:St}{x:SV}{md:Bool}{wr:zF}(hg:zG st x md=some (df,wr))(h:HW Fs w0 st ρ w):
  ∃vcs iV,wr= .cut vcs∧((∀b∈vcs,b.prop ρ)→HW Fs w0 df (ρ.gb ⟨x.val ρ,iV⟩) w)∧df.fr=st.fr∧df.nt=st.nt∧df.fn=st.fn∧df.aQ={st.aQ with v:=st.aQ.v+1}∧
   ∃j md0 v0 t s n aA ck,st.hp[j]? =some (.cc md0 v0 t s n aA)∧df.hp=st.hp.set j ck:=by
 unfold zG at hg;split at hg
 ·rename_i r hr;split at hg
  ·rename_i aA ew;split at hg
   ·rename_i hc;obtain⟨hw,HN,je,tL⟩:=hc;cases hg;have iV:(x.val ρ).oneCell'=true:=by
     have ng:=ρ.ok;cases x with
     | vv i=>exact ng.vvD i
     | iC v cs s=>exact nc _ _ _ _ (ρ.vv.getD v V1.nil).one
     | _=>simp [gf]at hr
    obtain⟨S,hS⟩:=h.own;have cU:Reads st.hp ρ w S [r.j]:=by
     intro j _ ck hj;refine(hS.at_ j (ck.den ρ) ?_).1;rw [adO (by simpa using (adJ.1 hj).1),List.getElem?_map,hj];rfl
    have hj:st.hp[r.j]? =some (.cc r.md r.v r.t r.s r.n r.aA):=by
     unfold gf at hr;split at hr
     ·split at hr
      ·rename_i hf;cases hr;obtain⟨hj,dM⟩:=cX hf;simp only [Ck.mI,beq_iff_eq]at dM;subst dM;exact hj
      ·cases hr
     ·split at hr
      ·rename_i hf;split at hr
       ·rename_i hss;cases hr;obtain⟨hj,dM⟩:=cX hf;simp only [Ck.mI,beq_iff_eq]at dM;subst dM;exact hj
       ·cases hr
      ·cases hr
     ·cases hr
    refine⟨_,iV,rfl,fun cb=>?_,rfl,rfl,rfl,rfl,r.j,_,_,_,_,_,_,_,hj,rfl⟩;obtain⟨v1,v2⟩:=bu cb;have v2:=bc v2;simp only [E.den]at v2;obtain⟨_,dL⟩:=eM hr cU v1;have hle:=Env.jv ρ ⟨x.val ρ,iV⟩;have ey:=Env.Le.agree h.lens hle;have dZ:st.aQ.le {st.aQ with v:=st.aQ.v+1}:=by constructor<;>simp
    have Wc:=cU r.j (by simp) _ hj;refine⟨h.lens.gb _,cD dZ h.kz,?_,eO dZ h.nE,fun b hb=>(BE.gn ey (adI.1 h.nE b hb)).1 (h.kn b hb),?_,h.same,c_ dZ h.lu⟩
    ·refine adI.2 fun q hq=>?_
     rcases aee hq with hq | rfl
     ·exact Ck.bg dZ (adI.1 h.fg q hq)
     ·simp only [Ck.sc,ai,adX];exact⟨⟨Nat.lt_succ_self _,E.bg dZ je⟩,iP dZ tL⟩
    ·simp only [List.map_set];have HS:st.hp.map (Ck.den (ρ.gb ⟨x.val ρ,iV⟩))=st.hp.map (Ck.den ρ):=(jP ey h.fg).symm;rw [HS];have yG:(Ck.cc md st.aQ.v r.t r.s r.p.len aA).den (ρ.gb ⟨x.val ρ,iV⟩)=aB md r.t r.s (x.val ρ) (r.p.len.den ρ 0).toNat (aF ρ (r.p.len.den ρ 0).toNat aA):=by
      simp only [Ck.den,dP ρ _ h.lens.v];rw [←E.bR ey je,←tC ey tL]
     rw [yG];obtain⟨e1,e2⟩:=jt dL.lo ew;have h2:=dL.hi;have h1:=dL.lo;have fl:((aF ρ (r.n.den ρ 0).toNat r.aA).drop ((r.p.lo.den ρ 0).toNat*r.s)).take ((r.p.len.den ρ 0).toNat*r.s)=aF ρ (r.p.len.den ρ 0).toNat aA:=by
      rw [cy,hw,ui (dj ρ r.aA) _ _ _ (by omega),cy];exact cH fun i _=>(e2 i).symm
     refine bd.weaken hS r.j _ _ (by rw [List.getElem?_map,hj];rfl) (fun wW=>HN wW) (fun k=>(x.val ρ).ownBlock=some k∧(md=true∨0<(r.p.len.den ρ 0).toNat)) (fun k hk=>?_) ⟨?_,fun k=>Iff.rfl⟩
     ·rw [Lp dL]at hk;refine(Wc.2 k).2 ⟨hk.1,hk.2.imp (fun h=>HN h) fun h=>?_⟩;omega
     ·cases md with
      | true=>
       simp only [if_true];have cE:=Wc.1;rw [HN rfl]at cE;simp only [if_true]at cE;have:=(qf dL v2 cE).1;rw [fl]at this;exact this
      | false=>
       simp only [Bool.false_eq_true,if_false];have:=Lo dL (BB Wc).1;rw [fl]at this;refine⟨?_,this⟩;rw [dp,e1,←hw]
   ·cases hg
  ·cases hg
 ·cases hg
theorem OO{L:Nat→LC}: ∀{vcs:List BE} {f:F} {ρ:Env},VC P ao (ZK vcs f) ρ L→(∀b∈vcs,b.prop ρ)∧VC P ao f ρ L
 | [],f,ρ,h=>⟨by simp,h⟩
 | b::r,f,ρ,h=>by
  obtain⟨h1,h2⟩:=h;obtain⟨h3,h4⟩:=OO (h2 h1);exact⟨fun c hc=>(List.mem_cons.1 hc).elim (fun e=>e▸h1) (h3 c),h4⟩
theorem zR(hp:List Ck)(i j:Nat): ∃σ:Nat→Nat,(∀a b,σ a=σ b→a=b)∧(∀k,k<hp.length→σ k<hp.length)∧(∀k,hp.length≤k→σ k=k)∧∀k,(swapAt hp i j)[k]? =hp[σ k]? :=by
 unfold swapAt;split
 ·rename_i d c hi hj;have li:=(adJ.1 hi).1;have lj:=(adJ.1 hj).1;refine⟨fun k=>if k=i then j else if k=j then i else k,fun a b=>?_,fun k hk=>?_,fun k hk=>?_,fun k=>?_⟩
  ·simp only;split<;>split<;>(try split)<;>(try split)<;>omega
  ·simp only;split
   ·exact lj
   ·split
    ·exact li
    ·exact hk
  ·simp only;rw [if_neg (by omega),if_neg (by omega)]
  ·simp only [List.getElem?_set,List.length_set];by_cases h1:k=i
   ·subst h1;by_cases h2:j=k
    ·subst h2;simp [li];exact(adJ.1 hi).2.symm
    ·rw [if_neg h2,if_pos rfl,if_pos rfl,if_pos li,hj]
   ·by_cases h2:k=j
    ·subst h2;rw [if_pos rfl,if_pos lj,if_neg h1,if_pos rfl,hi]
    ·rw [if_neg (fun e=>h2 e.symm),if_neg (fun e=>h1 e.symm),if_neg h1,if_neg h2]
 ·exact⟨fun k=>k,fun _ _ h=>h,fun _ h=>h,fun _ _=>rfl,fun _=>rfl⟩
theorem zS(hp:List Ck)(i j:Nat):(swapAt hp i j).length=hp.length:=by
 unfold swapAt;split
 ·simp
 ·rfl
theorem OP{hp:List Ck}{i j:Nat}{p:Ck→Bool}(h:hp.all p=true):(swapAt hp i j).all p=true:=by
 obtain⟨σ,_,_,_,hg⟩:=zR hp i j;rw [adI]at h ⊢;intro x hx;obtain⟨k,hk⟩:=List.getElem?_of_mem hx;rw [hg]at hk;exact h x (List.mem_of_getElem? hk)
theorem OQ{hp:List Ck}{i j:Nat}{ρ:Env}{Fs:List HP}{w:World}(h:bd (hp.map (Ck.den ρ)++Fs) w):bd ((swapAt hp i j).map (Ck.den ρ)++Fs) w:=by
 obtain⟨σ,h1,h2,h3,h4⟩:=zR hp i j;refine h.rI (fun k=>some (σ k)) (fun k x hx=> .inr ⟨σ k,rfl,?_⟩) (fun a b c ha hb _ _=>h1 a b ?_)
 ·by_cases hk:k<hp.length
  ·rw [adO (by rw [List.length_map,zS];exact hk),List.getElem?_map,h4]at hx;rw [adO (by rw [List.length_map];exact h2 k hk),List.getElem?_map];exact hx
  ·rw [adQ (by rw [List.length_map,zS];omega),List.length_map,zS]at hx;rw [h3 k (by omega),adQ (by rw [List.length_map];omega),List.length_map];exact hx
 ·rw [adK]at ha hb;rw [ha,hb]
theorem FF{T:List TI}{st df:St}{x:rQ}{wr:zF}{L:Nat→LC}{f:F}(hg:dK T st x=some (df,wr))(h:HW Fs w0 st ρ w)(ha:HA st.fr st.nt ρ a)(hv:VC P ao (fO [wr] f) ρ L):
  ∃bC,Env.Le ρ bC∧HW Fs w0 df bC w∧HA df.fr df.nt bC a∧df.fn=st.fn∧VC P ao f bC L:=by
 cases wr with
 | nil=>
  obtain⟨g1,g2,g3,g4⟩:=Ln hg h ha;exact⟨_,Env.jv _ _,g1,g2,g4,hv⟩
 | same=>
  simp only [fO]at hv;cases x with
  | slot s t=>
   simp only [dK]at hg;split at hg
   ·rw [adM]at hg;obtain⟨_,_,he⟩:=hg;cases he
   ·cases hg
  | cell i j t=>
   simp only [dK]at hg;split at hg
   ·split at hg
    ·rw [adM]at hg;obtain⟨_,_,he⟩:=hg;cases he
    ·cases hg
   ·cases hg
  | cut s md=>
   simp only [dK]at hg;split at hg
   ·rw [adM]at hg;obtain⟨y,hy,he⟩:=hg;obtain⟨_,_,hw,_⟩:=iU (wr:=y.2) (df:=y.1) hy h;simp only [aek]at he;rw [he.2]at hw;cases hw
   ·cases hg
  | own s t=>
   simp only [dK]at hg;split at hg
   ·rw [adM]at hg;obtain⟨y,hy,he⟩:=hg;obtain⟨_,_,hw,_⟩:=m9 (wr:=y.2) (df:=y.1) hy h;simp only [aek]at he;rw [he.2]at hw;cases hw
   ·cases hg
  | uh i j md=>
   simp only [dK]at hg;split at hg
   ·split at hg
    ·split at hg
     ·rename_i s1 Up hy;obtain⟨_,_,hw,_⟩:=iU hy h;split at hg
      ·split at hg
       ·simp only [adK,aek]at hg;rw [hg.2]at hw;cases hw
       ·cases hg
      ·cases hg
     ·cases hg
    ·cases hg
   ·cases hg
  | marks=>simp [dK]at hg
  | mark=>
   simp only [dK]at hg;split at hg
   ·split at hg
    ·simp at hg
    ·cases hg
   ·simp only [adK,aek,and_true]at hg;subst hg;exact⟨ρ,Env.Le.refl _,h,ha,rfl,hv⟩
   ·cases hg
  | swap s i=>
   simp only [dK]at hg;split at hg
   ·simp only [adK,aek,and_true]at hg;subst hg;exact⟨ρ,Env.Le.refl _,⟨h.lens,h.kz,OP h.fg,h.nE,h.kn,OQ h.own,h.same,h.lu⟩,ha,rfl,hv⟩
   ·cases hg
 | s5=>
  simp only [fO,VC]at hv;cases x with
  | slot s t=>
   simp only [dK]at hg;split at hg
   ·rw [adM]at hg;obtain⟨_,_,he⟩:=hg;cases he
   ·cases hg
  | cell i j t=>
   simp only [dK]at hg;split at hg
   ·split at hg
    ·rw [adM]at hg;obtain⟨_,_,he⟩:=hg;cases he
    ·cases hg
   ·cases hg
  | cut s md=>
   simp only [dK]at hg;split at hg
   ·rw [adM]at hg;obtain⟨y,hy,he⟩:=hg;obtain⟨_,_,hw,_⟩:=iU (wr:=y.2) (df:=y.1) hy h;simp only [aek]at he;rw [he.2]at hw;cases hw
   ·cases hg
  | own s t=>
   simp only [dK]at hg;split at hg
   ·rw [adM]at hg;obtain⟨y,hy,he⟩:=hg;obtain⟨_,_,hw,_⟩:=m9 (wr:=y.2) (df:=y.1) hy h;simp only [aek]at he;rw [he.2]at hw;cases hw
   ·cases hg
  | uh i j md=>
   simp only [dK]at hg;split at hg
   ·split at hg
    ·split at hg
     ·rename_i s1 Up hy;obtain⟨_,_,hw,_⟩:=iU hy h;split at hg
      ·split at hg
       ·simp only [adK,aek]at hg;rw [hg.2]at hw;cases hw
       ·cases hg
      ·cases hg
     ·cases hg
    ·cases hg
   ·cases hg
  | marks=>
   simp only [dK,adK,aek,and_true]at hg;subst hg;have hle:=Env.CS ρ (oo []);have ey:=Env.Le.agree h.lens hle;have dZ:st.aQ.le {st.aQ with b:=st.aQ.b+1}:=by constructor<;>simp
   have hb:=iK ρ (oo []) h.lens.b;refine⟨_,hle,⟨h.lens.mz _,cD dZ h.kz,?_,eO dZ h.nE,fun b hb=>(BE.gn ey (adI.1 h.nE b hb)).1 (h.kn b hb),?_,h.same,?_⟩,?_,rfl,hv (oo [])⟩
   ·rw [List.all_append,ai];exact⟨im dZ h.fg,by simp [Ck.sc]⟩
   ·rw [List.map_append];refine bd.add (h.zQ hle) _ (fun _=>False) (Nat.le_refl _) (fun _ _=>rfl) ?_ (fun _ hk=>hk.elim);simp only [Ck.den,hb,oq];exact⟨by simp,by simp,by simp⟩
   ·rw [List.all_cons,ai];exact⟨by simp [MK.sc],c_ dZ h.lu⟩
   ·have tJ:=ha.more h.kz h.lu ey;refine⟨?_,tJ.size,tJ.aV⟩;rw [tJ.defers];simp only [marks,MK.blocks,List.flatMap_cons,hb,oq,List.nil_append]
  | mark=>
   simp only [dK]at hg;split at hg;rotate_left
   ·simp at hg
   ·cases hg
   rename_i b c ds LG;split at hg;rotate_left
   ·cases hg
   rename_i i j hi hj;simp only [adK,aek,and_true]at hg;subst hg;have nH:st.hp[i]? =some (.JT b):=by
    rw [List.findIdx?_eq_some_iff_getElem]at hi;obtain⟨cK,hd,_⟩:=hi;cases hc:st.hp[i]with
    | JT b'=>
     rw [hc]at hd;simp only [Ck.Bz,beq_iff_eq]at hd;subst hd;rw [ad9 cK,hc]
    | _=>rw [hc]at hd;simp [Ck.Bz]at hd
   have ky:st.hp[j]? =some (.rj c):=by
    rw [List.findIdx?_eq_some_iff_getElem]at hj;obtain⟨cK,hd,_⟩:=hj;cases hc:st.hp[j]with
    | rj b'=>
     rw [hc]at hd;simp only [Ck.vu,beq_iff_eq]at hd;subst hd;rw [ad9 cK,hc]
    | _=>rw [hc]at hd;simp [Ck.vu]at hd
   have RM:=h.lu;rw [LG]at RM;simp only [List.all_cons,ai,MK.sc,adX]at RM;generalize hl:ρ.bv.getD b 0::pG (ρ.bv.getD c 0)=l;have hle:=Env.CS ρ (oo l);have ey:=Env.Le.agree h.lens hle;have dZ:st.aQ.le {st.aQ with b:=st.aQ.b+1}:=by constructor<;>simp
   have hb:=iK ρ (oo l) h.lens.b;refine⟨_,hle,⟨h.lens.mz _,cD dZ h.kz,?_,eO dZ h.nE,fun b hb=>(BE.gn ey (adI.1 h.nE b hb)).1 (h.kn b hb),?_,h.same,?_⟩,?_,rfl,hv (oo l)⟩
   ·refine adI.2 fun q hq=>?_
    rcases aee hq with hq | rfl
    ·rcases aee hq with hq | rfl
     ·exact Ck.bg dZ (adI.1 h.fg q hq)
     ·rfl
    ·simp [Ck.sc]
   ·have ho:=h.zQ hle;rw [List.map_set,List.map_set];have e1:(st.hp.map (Ck.den (ρ.mz (oo l))))[i]? =some (xO (ρ.bv.getD b 0)):=by
     rw [List.getElem?_map,nH,Option.map_some,Ck.den,←ey.b b RM.1]
    have e2:(st.hp.map (Ck.den (ρ.mz (oo l))))[j]? =some (kF (pG (ρ.bv.getD c 0))):=by
     rw [List.getElem?_map,ky,Option.map_some,Ck.den,←ey.b c RM.2.1]
    have:=ho.FE e1 e2 (by rintro rfl;rw [nH]at ky;cases ky);rw [hl]at this;rw [show(Ck.rj st.aQ.b).den (ρ.mz (oo l))=kF l by simp only [Ck.den,hb,oq]];exact this
   ·rw [List.all_cons,ai];exact⟨by simp [MK.sc],c_ dZ RM.2.2⟩
   ·have tJ:=ha.more h.kz h.lu ey;refine⟨?_,tJ.size,tJ.aV⟩;rw [ha.defers,LG];rw [show marks ρ (.one b:: .many c::ds)=l.map (fun b=>{target:= .collected b,args:= #[]})++marks ρ ds by simp [marks,MK.blocks,←hl],tN ey RM.2.2];simp only [marks,MK.blocks,List.flatMap_cons,hb,oq,List.map_append]
  | swap s i=>
   simp only [dK]at hg;split at hg
   ·simp at hg
   ·cases hg
 | cut vcs=>
  simp only [fO]at hv;obtain⟨cb,hv⟩:=OO hv;simp only [VC]at hv;cases x with
  | slot s t=>
   simp only [dK]at hg;split at hg
   ·rw [adM]at hg;obtain⟨_,_,he⟩:=hg;cases he
   ·cases hg
  | cell i j t=>
   simp only [dK]at hg;split at hg
   ·split at hg
    ·rw [adM]at hg;obtain⟨_,_,he⟩:=hg;cases he
    ·cases hg
   ·cases hg
  | cut s md=>
   simp only [dK]at hg;split at hg
   ·rename_i x hl;rw [adM]at hg;obtain⟨⟨s1,Up⟩,hy,he⟩:=hg;cases he;obtain⟨Wd,iV,wW,ZX,e1,e2,e3,e4,_⟩:=iU hy h;cases wW;have h1:=ZX cb;have hle:=Env.jv ρ ⟨x.val ρ,iV⟩;have ey:=Env.Le.agree h.lens hle;have tJ:=ha.more h.kz h.lu ey;have vO:(SV.vv st.aQ.v).sc s1.aQ=true:=by rw [e4];simp [SV.sc]
    refine⟨_,hle,h1.put vO,⟨by rw [(dU _ _ _).2.2.2.1,e2];exact tJ.defers,by rw [(dU _ _ _).2.2.2.1,e2];exact ha.size,fun q v hq=>?_⟩,by rw [(dU _ _ _).2.2.2.2,e3],hv _⟩;simp only [St.put]at hq;unfold look at hq;split at hq
    ·rename_i Jg;rw [beq_iff_eq]at Jg;subst Jg;cases hq;rw [ha.aV _ _ hl];simp only [SV.val,dP ρ _ h.lens.v]
    ·rename_i Jg;rw [m7 s _ q (fun e=>Jg (by simp [e])),e1]at hq;exact tJ.aV q v hq
   ·cases hg
  | own s t=>
   simp only [dK]at hg;split at hg
   ·rename_i x hl;rw [adM]at hg;obtain⟨⟨s1,Up⟩,hy,he⟩:=hg;cases he;obtain⟨Wd,iV,wW,h1,e1,e2,e3,e4⟩:=m9 hy h;cases wW;have hle:=Env.jv ρ ⟨x.val ρ,iV⟩;have ey:=Env.Le.agree h.lens hle;have tJ:=ha.more h.kz h.lu ey;have vO:(SV.vv st.aQ.v).sc s1.aQ=true:=by rw [e4];simp [SV.sc]
    refine⟨_,hle,h1.put vO,⟨by rw [(dU _ _ _).2.2.2.1,e2];exact tJ.defers,by rw [(dU _ _ _).2.2.2.1,e2];exact ha.size,fun q v hq=>?_⟩,by rw [(dU _ _ _).2.2.2.2,e3],hv _⟩;simp only [St.put]at hq;unfold look at hq;split at hq
    ·rename_i Jg;rw [beq_iff_eq]at Jg;subst Jg;cases hq;rw [ha.aV _ _ hl];simp only [SV.val,dP ρ _ h.lens.v]
    ·rename_i Jg;rw [m7 s _ q (fun e=>Jg (by simp [e])),e1]at hq;exact tJ.aV q v hq
   ·cases hg
  | uh i j md=>
   simp only [dK]at hg;split at hg
   ·rename_i b wr cs hi;split at hg
    ·rename_i x hj;split at hg
     ·rename_i s1 Up hy;obtain⟨Wd,iV,wW,ZX,e1,e2,e3,e4,jj,md0,v0,t0,s0,n0,V4,ck,e5,e6⟩:=iU hy h;split at hg
      ·rename_i b' w' uC nH;split at hg
       ·cases hg;cases wW;have h1:=ZX cb;have hle:=Env.jv ρ ⟨x.val ρ,iV⟩;have ey:=Env.Le.agree h.lens hle;have tJ:=ha.more h.kz h.lu ey;have vO:(SV.vv st.aQ.v).sc s1.aQ=true:=by rw [e4];simp [SV.sc]
        have fc:jj≠i:=by
         intro e;subst e;rw [hi]at e5;cases e5
        have FN:s1.hp[i]? =some (.row b wr cs):=by
         rw [e6,ad_ fc];exact hi
        have HT:=adI.1 h1.fg _ (List.mem_of_getElem? FN);simp only [Ck.sc,ai]at HT;have Gi:x.sc st.aQ=true:=by
         have:=adI.1 h.fg _ (List.mem_of_getElem? hi);simp only [Ck.sc,ai]at this;have key: ∀{l:List SV} {k:Nat} {y:SV},SV.pw st.aQ l=true→l[k]? =some y→y.sc st.aQ=true:=by
          intro l
          induction l with
          | nil=>intro k y _ hy;simp at hy
          | cons z r ih=>
           intro k y hl hy;simp only [SV.pw,ai]at hl;cases k with
           | zero=>simp at hy;subst hy;exact hl.1
           | succ k=>exact ih hl.2 (by simpa using hy)
         exact key this.2 hj
        have Sr:x.plain=true:=by
         unfold zG at hy;split at hy
         ·rename_i r hr;cases x<;>first | rfl | simp [gf]at hr
         ·cases hy
        have yG:(Ck.row b wr (cs.set j (.vv st.aQ.v))).den (ρ.gb ⟨x.val ρ,iV⟩)=(Ck.row b wr cs).den (ρ.gb ⟨x.val ρ,iV⟩):=by
         simp only [Ck.den];rw [sS hj];rw [gx _ Sr,←(SV.uP ey Gi).1];simp only [SV.cells,dP ρ _ h.lens.v]
        have HS:(s1.hp.set i (.row b wr (cs.set j (.vv st.aQ.v)))).map (Ck.den (ρ.gb ⟨x.val ρ,iV⟩))=s1.hp.map (Ck.den (ρ.gb ⟨x.val ρ,iV⟩)):=by
         rw [List.map_set,yG];apply List.ext_getElem?;intro q;rw [List.getElem?_set];split
         ·rename_i hq;subst hq;split
          ·rw [List.getElem?_map,FN];rfl
          ·rename_i cK;rw [aeh (by omega)]
         ·rfl
        refine⟨_,hle,⟨h1.lens,h1.kz,?_,h1.nE,h1.kn,by rw [HS];exact h1.own,h1.same,h1.lu⟩,⟨by rw [e2];exact tJ.defers,by rw [e2];exact ha.size,by rw [e1];exact tJ.aV⟩,e3,hv _⟩;refine adI.2 fun q hq=>?_
        rcases aee hq with hq | rfl
        ·exact adI.1 h1.fg q hq
        ·simp only [Ck.sc,ai];exact⟨HT.1,CT HT.2 vO⟩
       ·cases hg
      ·cases hg
     ·cases hg
    ·cases hg
   ·cases hg
  | marks=>simp [dK]at hg
  | mark=>
   simp only [dK]at hg;split at hg
   ·split at hg
    ·simp at hg
    ·cases hg
   ·simp at hg
   ·cases hg
  | swap s i=>
   simp only [dK]at hg;split at hg
   ·simp at hg
   ·cases hg
theorem CU(x:zF)(r:List zF)(f:F):fO (x::r) f=fO [x] (fO r f):=by cases x<;>rfl
theorem jw{T:List TI}{L:Nat→LC}{f:F}: ∀{xs:List rQ} {st df:St} {n:List zF} {ρ:Env},sR T st xs=some (df,n)→HW Fs w0 st ρ w→HA st.fr st.nt ρ a→VC P ao (fO n f) ρ L→
  ∃bC,Env.Le ρ bC∧HW Fs w0 df bC w∧HA df.fr df.nt bC a∧df.fn=st.fn∧VC P ao f bC L
 | [],st,df,n,ρ,h,hw,ha,hv=>by
  simp only [sR,adK,aek]at h;obtain⟨rfl,rfl⟩:=h;exact⟨ρ,Env.Le.refl _,hw,ha,rfl,hv⟩
 | x::xs,st,df,n,ρ,h,hw,ha,hv=>by
  unfold sR at h;split at h
  ·rename_i s1 h1;split at h
   ·rename_i s2 k h2;simp only [adK,aek]at h;obtain⟨rfl,rfl⟩:=h;rw [CU]at hv;obtain⟨qO,g0,g1,g2,g4,g5⟩:=FF h1 hw ha hv;obtain⟨bC,q1,q2,q3,q5,q6⟩:=jw h2 g1 g2 g5;exact⟨bC,g0.trans q1,q2,q3,q5.trans g4,q6⟩
   ·cases h
  ·cases h
end
end Go.RX
