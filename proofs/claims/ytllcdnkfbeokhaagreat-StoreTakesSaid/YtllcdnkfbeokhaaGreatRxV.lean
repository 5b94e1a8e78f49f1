/- Executor. -/
import Derived.Test.YtllcdnkfbeokhaaGreatRxU
open Bool renaming and_eq_true → ai
open Int renaming toNat → ag
open List renaming all_eq_true → aqn, getElem?_append_left → aqs, getElem?_append_right → aqt, getElem?_eq_none → aq3, getElem?_eq_some_iff → aqo, getElem?_set_ne → aqO, mem_of_getElem? → aqG, mem_or_eq_of_mem_set → aqT
open Nat renaming blt_eq → aqB
open Option renaming map_eq_some_iff → aqq
open Option.some renaming injEq → aqp
open Prod.mk renaming injEq → aqX
namespace Go.RX
section
variable {P:Program} {C:Ctx} {al:Value→List HP→Prop} {Fs:List HP} {w0:World} {ρ:Env} {a:Act} {w:World}
theorem Env.C9(ρ:Env)(b:Nat):Env.Le ρ (ρ.m_ b):=by rw [Env.Rf];exact Env.im _ _
theorem Env.kj(ρ:Env)(v:V1):Env.Le ρ (ρ.ig v):=by rw [Env.Rg];exact Env.im _ _
theorem hG.m_{c:ct}(h:hG ρ c)(b:Nat):hG (ρ.m_ b) {c with b:=c.b+1}:=
 ⟨by simp [Env.m_,h.b],h.v,h.i,h.a,h.bo,h.p,h.r⟩
theorem hG.ig{c:ct}(h:hG ρ c)(v:V1):hG (ρ.ig v) {c with v:=c.v+1}:=
 ⟨h.b,by simp [Env.ig,h.v],h.i,h.a,h.bo,h.p,h.r⟩
theorem eA(ρ:Env)(v:V1){n:Nat}(h:ρ.vv.length=n):(ρ.ig v).vv.getD n V1.nil=v:=by
 subst h;simp [Env.ig]
theorem iP(ρ:Env)(b:Nat){n:Nat}(h:ρ.bv.length=n):(ρ.m_ b).bv.getD n 0=b:=by
 subst h;simp [Env.m_]
theorem tl{ρ:Env}: ∀{cs:List SV} {j:Nat} {x y:SV},cs[j]? =some x→SV.cells ρ y=SV.cells ρ x→SV.ao ρ (cs.set j y)=SV.ao ρ cs
 | [],j,x,y,h,_=>by simp at h
 | c::cs,0,x,y,h,e=>by
  simp only [List.getElem?_cons_zero,aqp]at h;subst h;simp only [List.set_cons_zero,SV.ao,e]
 | c::cs,j+1,x,y,h,e=>by
  simp only [List.getElem?_cons_succ]at h;simp only [List.set_cons_succ,SV.ao,tl h e]
theorem C_{c:ct}: ∀{cs:List SV} {j:Nat} {y:SV},SV.pN c cs=true→y.sc c=true→SV.pN c (cs.set j y)=true
 | [],j,y,h,_=>by simpa using h
 | x::cs,0,y,h,e=>by
  simp only [SV.pN,ai]at h;simp only [List.set_cons_zero,SV.pN,ai];exact⟨e,h.2⟩
 | x::cs,j+1,y,h,e=>by
  simp only [SV.pN,ai]at h;simp only [List.set_cons_succ,SV.pN,ai];exact⟨h.1,C_ h.2 e⟩
theorem HW.Ad{st:St}{bF:Env}(h:HW Fs w0 st ρ w)(hle:Env.Le ρ bF):bG (st.hp.map (Ck.den bF)++Fs) w:=by
 rw [←kK (Env.Le.eH h.lens hle) h.gj];exact h.own
theorem xk{T:List TI}{st dO:St}{t:Nat}(hg:I8 T st t=some dO)(h:HW Fs w0 st ρ w):
  HW Fs w0 dO (ρ.ig ⟨.slice none 0 0,rfl⟩) w∧dO.fr=st.fr∧dO.nt=st.nt∧dO.fn=st.fn∧dO.aW={st.aW with v:=st.aW.v+1}∧∃ck,dO.hp=st.hp++[ck]:=by
 unfold I8 at hg;split at hg
 ·rename_i ti ay cO eT;split at hg
  ·rename_i jt;cases hg;have hle:=Env.kj ρ ⟨.slice none 0 0,rfl⟩;have eG:st.aW.le {st.aW with v:=st.aW.v+1}:=by constructor<;>simp
   refine⟨⟨h.lens.ig _,cP eG h.lx,?_,fF eG h.ot,fun b hb=>?_,?_,h.same,dF eG h.mw⟩,rfl,rfl,rfl,rfl,_,rfl⟩
   ·rw [List.all_append,ai];refine⟨ju eG h.gj,?_⟩;simp only [List.all_cons,List.all_nil,Ck.sc,E.sc,Bool.and_true,ai,aqB];exact⟨Nat.lt_succ_self _,jL eG jt⟩
   ·exact(BE.iE (Env.Le.eH h.lens hle) (aqn.1 h.ot b hb)).1 (h.kn b hb)
   ·rw [List.map_append];refine bG.add (h.Ad hle) _ (fun _=>False) (Nat.le_refl _) (fun _ _=>rfl) ?_ (fun _ hk=>hk.elim);simp only [Ck.den,eA ρ _ h.lens.v];refine⟨?_,fun k=>by simp [Value.ownBlock]⟩;simp only [if_true];exact mB w t ti.size
  ·cases hg
 ·cases hg
theorem bG.weaken{a b:List HP}{w:World}{S:Nat→Nat→Prop}(h:Sep (a++b) S w)(i:Nat)(h0 h':HP)(hi:a[i]? =some h0)(hw:h'.wr=true→h0.wr=true)
  (S':Nat→Prop) (eJ: ∀k,S' k→S i k) (hp:h'.p w S'):bG (a.set i h'++b) w:=by
 have cq:i<a.length:=(aqo.1 hi).1;have dy:(a++b)[i]? =some h0:=by rw [aqs cq];exact hi
 have hold: ∀(j:Nat) x,(a.set i h'++b)[j]? =some x→∃y,(a++b)[j]? =some y∧(x.wr=true→y.wr=true)∧(j≠i→x=y)∧(j=i→x=h'):=by
  intro j x hx;by_cases hj:j=i
  ·subst hj;rw [aqs (by simpa using cq),List.getElem?_set_self cq]at hx;cases hx;exact⟨h0,dy,hw,fun h=>absurd rfl h,fun _=>rfl⟩
  ·refine⟨x,?_,id,fun _=>rfl,fun h=>absurd h hj⟩;by_cases Xo:j<a.length
   ·rw [aqs (by simpa using Xo),aqO (Ne.symm hj)]at hx;rw [aqs Xo];exact hx
   ·rw [aqt (by simp;omega),List.length_set]at hx;rw [aqt (by omega)];exact hx
 have P6: ∀j k,(if j=i then S' k else S j k)→S j k:=by
  intro j k hk;split at hk
  ·rename_i hj;subst hj;exact eJ k hk
  ·exact hk
 refine⟨fun j k=>if j=i then S' k else S j k,⟨fun j x hx=>?_,fun j k x y fg hx hy uS q h1 h2=>?_⟩⟩
 ·obtain⟨y,hy,_,h1,h2⟩:=hold j x hx;obtain⟨hpy,hb⟩:=h.at_ j y hy;refine⟨?_,fun k hk=>hb k (P6 j k hk)⟩;by_cases hj:j=i
  ·subst hj;rw [h2 rfl];simp only [if_true];exact hp
  ·rw [h1 hj];simp only [hj,if_false];exact hpy
 ·obtain⟨x',Sr,wx,_,_⟩:=hold j x hx;obtain⟨y',XK,wy,_,_⟩:=hold k y hy;exact h.apart j k x' y' fg Sr XK (uS.imp wx wy) q (P6 j q h1) (P6 k q h2)
theorem nM{st dO:St}{x:SV}{ty:Nat}{wr:zT}(hg:PW st x ty=some (dO,wr))(h:HW Fs w0 st ρ w):
  ∃vcs jV,wr= .cut vcs∧HW Fs w0 dO (ρ.ig ⟨x.val ρ,jV⟩) w∧dO.fr=st.fr∧dO.nt=st.nt∧dO.fn=st.fn∧dO.aW={st.aW with v:=st.aW.v+1}:=by
 unfold PW at hg;split at hg
 case h_2=>cases hg
 rename_i b ix s n m;split at hg
 case h_2=>cases hg
 rename_i j b' cs q Ra hix hn;split at hg
 case h_2=>cases hg
 rename_i ki kl a JT;split at hg
 case isFalse=>cases hg
 rename_i hc;obtain⟨rfl,rfl,hq,MF,hqb,Yr⟩:=hc;cases hg;have Zd:n.den ρ 0=(q:Int):=bU (ρ:=ρ) hn;have Ze:ix.den ρ 0=((0:Nat):Int):=bU (ρ:=ρ) hix;have Gs:(SV.sl b ix 1 n n).val ρ= .slice (some ⟨ρ.bv.getD b 0,0,none⟩) q q:=by simp [SV.val,Zd,Ze]
 obtain⟨hj,dK⟩:=de Ra;simp only [Ck.rK,beq_iff_eq]at dK;subst dK;obtain⟨S,hS⟩:=h.own;have cN:Reads st.hp ρ w S [j]:=by
  intro j _ ck hj;refine(hS.at_ j (ck.den ρ) ?_).1;rw [aqs (by simpa using (aqo.1 hj).1),List.getElem?_map,hj];rfl
 have hSr:=cN j (by simp) _ hj;have gp:SV.ao ρ cs=aj ki q (a.den ρ):=by
  have Rc:=gJ (ρ:=ρ) JT;rw [MF,List.length_replicate,o4]at Rc;exact Rc
 have hlen:(SV.ao ρ cs).length=q:=by rw [gp,aD]
 have JQ:(ak (ρ.bv.getD b 0) true (SV.ao ρ cs)).p w (S j):=hSr;have cY:=DW (t:=ty) JQ (by rw [hlen];unfold maxLen;omega);rw [hlen,gp]at cY;refine⟨[],by rw [Gs];rfl,rfl,?_,rfl,rfl,rfl,rfl⟩;have jV:((SV.sl b ix 1 n n).val ρ).oneCell'=true:=by rw [Gs];rfl
 have hle:=Env.kj ρ ⟨(SV.sl b ix 1 n n).val ρ,jV⟩;have eV:=Env.Le.eH h.lens hle;have eG:st.aW.le {st.aW with v:=st.aW.v+1}:=by constructor<;>simp
 refine⟨h.lens.ig _,cP eG h.lx,?_,fF eG h.ot,fun b hb=>(BE.iE eV (aqn.1 h.ot b hb)).1 (h.kn b hb),?_,h.same,dF eG h.mw⟩
 ·refine aqn.2 fun z hz=>?_
  rcases aqT hz with hz | rfl
  ·exact Ck.a_ eG (aqn.1 h.gj z hz)
  ·simp only [Ck.sc,ai,aqB,List.all_cons,List.all_nil,bL.sc,CK.sc,E.sc,and_true];exact⟨Nat.lt_succ_self _,E.a_ eG Yr⟩
 ·simp only [List.map_set];have HY:st.hp.map (Ck.den (ρ.ig ⟨(SV.sl b ix 1 n n).val ρ,jV⟩))=st.hp.map (Ck.den ρ):=(kK eV h.gj).symm;rw [HY];have y0:(Ck.cr true st.aW.v ty 1 (.lit (q:Int)) [⟨.int ki,1,a⟩]).den (ρ.ig ⟨(SV.sl b ix 1 n n).val ρ,jV⟩)=aB true ty 1 (.slice (some ⟨ρ.bv.getD b 0,0,none⟩) q q) q (aj ki q (a.den ρ)):=by
   simp only [Ck.den,eA ρ _ h.lens.v];rw [dT,←E.bN eV Yr];have hqd: ∀r:Env,((E.lit (q:Int)).den r 0).toNat=q:=fun r=>by show ag (q:Int)=q;omega
   rw [hqd,Gs]
  rw [y0];refine bG.weaken hS j _ _ (by rw [List.getElem?_map,hj];rfl) (fun _=>rfl) (fun k=>(Value.slice (some ⟨ρ.bv.getD b 0,0,none⟩) q q).ownBlock=some k∧(true=true∨0<q)) (fun k hk=>?_) ⟨?_,fun k=>Iff.rfl⟩
  ·refine(JQ.1 k).2 ?_;have:=hk.1;simp only [Value.ownBlock,aqp]at this
   first | exact this.symm | exact this
  ·simp only [if_true];exact cY
theorem Lu{T:List TI}{st dO:St}{x:sr}(hg:er T st x=some (dO,.nil))(h:HW Fs w0 st ρ w)(ha:HA st.fr st.nt ρ a):
  HW Fs w0 dO (ρ.ig ⟨.slice none 0 0,rfl⟩) w∧HA dO.fr dO.nt (ρ.ig ⟨.slice none 0 0,rfl⟩) a∧dO.nt=st.nt∧dO.fn=st.fn:=by
 have hle:=Env.kj ρ ⟨.slice none 0 0,rfl⟩;have eV:=Env.Le.eH h.lens hle;have vu:=ha.more h.lx h.mw eV;cases x with
 | slot s t=>
  simp only [er]at hg;split at hg
  ·rename_i hl;rw [aqq]at hg;obtain⟨s1,kx,F5⟩:=hg;cases F5;obtain⟨h1,e1,e2,e3,e4,ck,e5⟩:=xk kx h;have hv:(SV.vv st.aW.v).sc s1.aW=true:=by rw [e4];simp [SV.sc]
   refine⟨h1.put hv,⟨by rw [(eI _ _ _).2.2.2.1,e2];exact vu.defers,by rw [(eI _ _ _).2.2.2.1,e2];exact ha.size,fun q v hq=>?_⟩,by rw [(eI _ _ _).2.2.2.1,e2],by rw [(eI _ _ _).2.2.2.2,e3]⟩;simp only [St.put]at hq;unfold look at hq;split at hq
   ·rename_i Ji;rw [beq_iff_eq]at Ji;subst Ji;cases hq;rw [ha.aU _ _ hl];simp only [SV.val,eA ρ _ h.lens.v]
   ·rename_i Ji;rw [nK s _ q (fun e=>Ji (by simp [e])),e1]at hq;exact vu.aU q v hq
  ·cases hg
 | cell i j t=>
  simp only [er]at hg;split at hg
  ·rename_i b wr cs hi;split at hg
   ·rename_i hj;rw [aqq]at hg;obtain⟨s1,kx,F5⟩:=hg;cases F5;obtain⟨h1,e1,e2,e3,e4,ck,e5⟩:=xk kx h;have hv:(SV.vv st.aW.v).sc s1.aW=true:=by rw [e4];simp [SV.sc]
    have dy:s1.hp[i]? =some (.row b wr cs):=by
     rw [e5,aqs (aqo.1 hi).1];exact hi
    have HZ:=aqn.1 h1.gj _ (aqG dy);simp only [Ck.sc,ai]at HZ;have y0:(Ck.row b wr (cs.set j (.vv st.aW.v))).den (ρ.ig ⟨.slice none 0 0,rfl⟩)=(Ck.row b wr cs).den (ρ.ig ⟨.slice none 0 0,rfl⟩):=by
     simp only [Ck.den];rw [tl hj];simp only [SV.cells,eA ρ _ h.lens.v]
    have HY:(s1.hp.set i (.row b wr (cs.set j (.vv st.aW.v)))).map (Ck.den (ρ.ig ⟨.slice none 0 0,rfl⟩))=s1.hp.map (Ck.den (ρ.ig ⟨.slice none 0 0,rfl⟩)):=by
     rw [List.map_set,y0];apply List.ext_getElem?;intro q;rw [List.getElem?_set];split
     ·rename_i hq;subst hq;split
      ·rw [List.getElem?_map,dy];rfl
      ·rename_i cq;rw [aq3 (by omega)]
     ·rfl
    refine⟨⟨h1.lens,h1.lx,?_,h1.ot,h1.kn,by rw [HY];exact h1.own,h1.same,h1.mw⟩,⟨by rw [e2];exact vu.defers,by rw [e2];exact ha.size,by rw [e1];exact vu.aU⟩,e2,e3⟩;refine aqn.2 fun q hq=>?_
    rcases aqT hq with hq | rfl
    ·exact aqn.1 h1.gj q hq
    ·simp only [Ck.sc,ai];exact⟨HZ.1,C_ HZ.2 hv⟩
   ·cases hg
  ·cases hg
 | cut s md=>
  simp only [er]at hg;split at hg
  ·rw [aqq]at hg;obtain⟨y,hy,he⟩:=hg;exfalso;unfold zU at hy;split at hy
   ·split at hy
    ·split at hy
     ·cases hy;cases he
     ·cases hy
    ·cases hy
   ·cases hy
  ·cases hg
 | own s t=>
  simp only [er]at hg;split at hg
  ·rw [aqq]at hg;obtain⟨y,hy,he⟩:=hg;exfalso;obtain⟨_,_,hw,_⟩:=nM (wr:=y.2) (dO:=y.1) hy h;simp only [aqX]at he;rw [he.2]at hw;cases hw
  ·cases hg
 | pw i j md=>
  simp only [er]at hg;split at hg
  ·split at hg
   ·split at hg
    ·rename_i mj YB hy;exfalso;have:YB≠ .nil:=by
      unfold zU at hy;split at hy
      ·split at hy
       ·split at hy
        ·cases hy;simp
        ·cases hy
       ·cases hy
      ·cases hy
     split at hg
     ·split at hg
      ·simp only [aqp,aqX]at hg;exact this hg.2
      ·cases hg
     ·cases hg
    ·cases hg
   ·cases hg
  ·cases hg
 | marks=>simp [er]at hg
 | mark=>
  simp only [er]at hg;split at hg
  ·split at hg
   ·simp at hg
   ·cases hg
  ·simp at hg
  ·cases hg
 | swap s i=>
  simp only [er]at hg;split at hg
  ·simp at hg
  ·cases hg
theorem bG.FG{a b:List HP}{w:World}{i j k:Nat}{l:List Nat}(h:bG (a++b) w)(hi:a[i]? =some (yu k))(hj:a[j]? =some (lE l))(m8:i≠j):
  bG ((a.set i HP.emp).set j (lE (k::l))++b) w:=by
 obtain⟨S,hS⟩:=h;have DZ:i<a.length:=(aqo.1 hi).1;have hjl:j<a.length:=(aqo.1 hj).1;have Jf:(a++b)[i]? =some (yu k):=by rw [aqs DZ];exact hi
 have hj2:(a++b)[j]? =some (lE l):=by rw [aqs hjl];exact hj
 obtain⟨⟨p1,p2⟩,p3⟩:=hS.at_ i _ Jf;obtain⟨⟨q1,q2,q3⟩,q4⟩:=hS.at_ j _ hj2;have JF:w.heap[k]? =some (.deferred (some [])):=p2;have hap: ∀x,S i x→¬S j x:=hS.apart i j _ _ m8 Jf hj2 (.inl rfl);have old: ∀(m:Nat) x,((a.set i HP.emp).set j (lE (k::l))++b)[m]? =some x→(m=i∧x=HP.emp)∨(m=j∧x=lE (k::l))∨(m≠i∧m≠j∧(a++b)[m]? =some x):=by
  intro m x hx;by_cases hma:m<a.length
  ·rw [aqs (by simpa using hma)]at hx;by_cases hmj:m=j
   ·subst hmj;rw [List.getElem?_set_self (by simpa using hma)]at hx;cases hx;exact .inr (.inl ⟨rfl,rfl⟩)
   ·rw [aqO (Ne.symm hmj)]at hx;by_cases Je:m=i
    ·subst Je;rw [List.getElem?_set_self hma]at hx;cases hx;exact .inl ⟨rfl,rfl⟩
    ·rw [aqO (Ne.symm Je)]at hx;exact .inr (.inr ⟨Je,hmj,by rw [aqs hma];exact hx⟩)
  ·rw [aqt (by simp;omega)]at hx;simp only [List.length_set]at hx;exact .inr (.inr ⟨by omega,by omega,by rw [aqt (by omega)];exact hx⟩)
 refine⟨fun m x=>if m=i then False else if m=j then S i x∨S j x else S m x,⟨fun m x hx=>?_,fun m n x y xH hx hy uS z h1 h2=>?_⟩⟩
 ·rcases old m x hx with⟨rfl,rfl⟩ | ⟨rfl,rfl⟩ | ⟨h1,h2,h3⟩
  ·simp only [if_true];exact⟨fun _ h=>h,fun _ h=>h.elim⟩
  ·simp only [Ne.symm m8,if_false,if_true];refine⟨⟨fun x=>?_,?_,fun b hb=>?_⟩,fun x hx=>hx.elim (p3 x) (q4 x)⟩
   ·simp only [p1,q1,List.mem_cons]
   ·exact List.nodup_cons.2 ⟨fun hk=>hap k ((p1 k).2 rfl) ((q1 k).2 hk),q2⟩
   ·rcases List.mem_cons.1 hb with rfl | hb
    ·exact JF
    ·exact q3 b hb
  ·simp only [h1,h2,if_false];exact hS.at_ m x h3
 ·rcases old m x hx with⟨rfl,rfl⟩ | ⟨rfl,rfl⟩ | ⟨h3,h4,h5⟩
  ·simp only [if_true]at h1
  ·simp only [Ne.symm m8,if_false,if_true]at h1;rcases old n y hy with⟨rfl,rfl⟩ | ⟨rfl,rfl⟩ | ⟨h6,h7,h8⟩
   ·simp only [if_true]at h2
   ·exact xH rfl
   ·simp only [h6,h7,if_false]at h2;exact h1.elim (fun h1=>hS.apart i n _ _ (Ne.symm h6) Jf h8 (.inl rfl) z h1 h2) (fun h1=>hS.apart m n _ _ (Ne.symm h7) hj2 h8 (.inl rfl) z h1 h2)
  ·simp only [h3,h4,if_false]at h1;rcases old n y hy with⟨rfl,rfl⟩ | ⟨rfl,rfl⟩ | ⟨h6,h7,h8⟩
   ·simp only [if_true]at h2
   ·simp only [Ne.symm m8,if_false,if_true]at h2;exact h2.elim (fun h2=>hS.apart m i _ _ h3 h5 Jf (.inr rfl) z h1 h2) (fun h2=>hS.apart m n _ _ h4 h5 hj2 (.inr rfl) z h1 h2)
   ·simp only [h6,h7,if_false]at h2;exact hS.apart m n _ _ xH h5 h8 uS z h1 h2
theorem Lv{s:Nat}{v x:Value}{n:E}{p:Part}{cs:List Value}(h:mI ρ s v x n p)(hv:World.views w v (n.den ρ 0).toNat cs):
  World.views w x (p.len.den ρ 0).toNat ((cs.drop ((p.lo.den ρ 0).toNat*s)).take ((p.len.den ρ 0).toNat*s)):=by
 obtain⟨h1,h2,h3,a,c,k,rfl,hc,rfl,hk⟩:=h;obtain⟨a',m,c',he,rfl,QY,j4,hr⟩:=hv;cases he;have JR:(p.lo.den ρ 0).toNat+(p.len.den ρ 0).toNat≤((p.mx.map fun m=>m.den ρ 0).map ag).getD c∨(p.len.den ρ 0).toNat=0:=by
  cases hm:(p.mx.map fun m=>m.den ρ 0)with
  | none=>simp only [Option.map_none,Option.getD_none];omega
  | some m=>have:=h3 m hm;simp only [Option.map_some,Option.getD_some];omega
 refine⟨_,_,_,rfl,rfl,by omega,?_,?_⟩
 ·intro hn;cases a with
  | none=>have:=j4 rfl;omega
  | some a=>cases hn
 ·intro ad had;rw [aqq]at had;obtain⟨a0,rfl,rfl⟩:=had;obtain⟨hs,j6⟩:=hr a0 rfl;refine⟨fun _=>Ls _ _ (hs (by omega)),fun j u hu=>?_⟩;rw [List.getElem?_take]at hu;split at hu
  ·rename_i hj;have hN:(p.len.den ρ 0).toNat≠0:=by intro h;rw [h,Nat.zero_mul]at hj;omega
   rw [List.getElem?_drop]at hu;rw [hk (.inl (by omega)),dv];exact j6 _ _ hu
  ·cases hu
theorem Lw{s:Nat}{v x:Value}{n:E}{p:Part}(h:mI ρ s v x n p):x.ownBlock=v.ownBlock:=by
 obtain⟨h1,h2,h3,a,c,k,rfl,hc,rfl,hk⟩:=h;cases a with
 | none=>rfl
 | some a=>
  simp only [Option.map_some,Value.ownBlock,Addr.add];split<;>rfl
theorem jR{st dO:St}{x:SV}{md:Bool}{wr:zT}(hg:zU st x md=some (dO,wr))(h:HW Fs w0 st ρ w):
  ∃vcs jV,wr= .cut vcs∧((∀b∈vcs,b.prop ρ)→HW Fs w0 dO (ρ.ig ⟨x.val ρ,jV⟩) w)∧dO.fr=st.fr∧dO.nt=st.nt∧dO.fn=st.fn∧dO.aW={st.aW with v:=st.aW.v+1}∧
   ∃j md0 v0 t s n ay ck,st.hp[j]? =some (.cr md0 v0 t s n ay)∧dO.hp=st.hp.set j ck:=by
 unfold zU at hg;split at hg
 ·rename_i r hr;split at hg
  ·rename_i ay eT;split at hg
   ·rename_i hc;obtain⟨hw,HO,kx,xD⟩:=hc;cases hg;have jV:(x.val ρ).oneCell'=true:=by
     have jf:=ρ.ok;cases x with
     | vv i=>exact jf.vvD i
     | jo v cs s=>exact nP _ _ _ _ (ρ.vv.getD v V1.nil).one
     | _=>simp [gL]at hr
    obtain⟨S,hS⟩:=h.own;have cN:Reads st.hp ρ w S [r.j]:=by
     intro j _ ck hj;refine(hS.at_ j (ck.den ρ) ?_).1;rw [aqs (by simpa using (aqo.1 hj).1),List.getElem?_map,hj];rfl
    have hj:st.hp[r.j]? =some (.cr r.md r.v r.t r.s r.n r.ay):=by
     unfold gL at hr;split at hr
     ·split at hr
      ·rename_i hf;cases hr;obtain⟨hj,dK⟩:=cK hf;simp only [Ck.lP,beq_iff_eq]at dK;subst dK;exact hj
      ·cases hr
     ·split at hr
      ·rename_i hf;split at hr
       ·rename_i hss;cases hr;obtain⟨hj,dK⟩:=cK hf;simp only [Ck.lP,beq_iff_eq]at dK;subst dK;exact hj
       ·cases hr
      ·cases hr
     ·cases hr
    refine⟨_,jV,rfl,fun bY=>?_,rfl,rfl,rfl,rfl,r.j,_,_,_,_,_,_,_,hj,rfl⟩;obtain⟨v1,v2⟩:=bw bY;have v2:=aZ v2;simp only [E.den]at v2;obtain⟨_,eJ⟩:=fE hr cN v1;have hle:=Env.kj ρ ⟨x.val ρ,jV⟩;have eV:=Env.Le.eH h.lens hle;have eG:st.aW.le {st.aW with v:=st.aW.v+1}:=by constructor<;>simp
    have hSr:=cN r.j (by simp) _ hj;refine⟨h.lens.ig _,cP eG h.lx,?_,fF eG h.ot,fun b hb=>(BE.iE eV (aqn.1 h.ot b hb)).1 (h.kn b hb),?_,h.same,dF eG h.mw⟩
    ·refine aqn.2 fun q hq=>?_
     rcases aqT hq with hq | rfl
     ·exact Ck.a_ eG (aqn.1 h.gj q hq)
     ·simp only [Ck.sc,ai,aqB];exact⟨⟨Nat.lt_succ_self _,E.a_ eG kx⟩,jL eG xD⟩
    ·simp only [List.map_set];have HY:st.hp.map (Ck.den (ρ.ig ⟨x.val ρ,jV⟩))=st.hp.map (Ck.den ρ):=(kK eV h.gj).symm;rw [HY];have y0:(Ck.cr md st.aW.v r.t r.s r.p.len ay).den (ρ.ig ⟨x.val ρ,jV⟩)=aB md r.t r.s (x.val ρ) (r.p.len.den ρ 0).toNat (aF ρ (r.p.len.den ρ 0).toNat ay):=by
      simp only [Ck.den,eA ρ _ h.lens.v];rw [←E.bN eV kx,←tX eV xD]
     rw [y0];obtain⟨e1,e2⟩:=j9 eJ.lo eT;have h2:=eJ.hi;have h1:=eJ.lo;have gp:((aF ρ (r.n.den ρ 0).toNat r.ay).drop ((r.p.lo.den ρ 0).toNat*r.s)).take ((r.p.len.den ρ 0).toNat*r.s)=aF ρ (r.p.len.den ρ 0).toNat ay:=by
      rw [cH,hw,tR (dC ρ r.ay) _ _ _ (by omega),cH];exact cT fun i _=>(e2 i).symm
     refine bG.weaken hS r.j _ _ (by rw [List.getElem?_map,hj];rfl) (fun uS=>HO uS) (fun k=>(x.val ρ).ownBlock=some k∧(md=true∨0<(r.p.len.den ρ 0).toNat)) (fun k hk=>?_) ⟨?_,fun k=>Iff.rfl⟩
     ·rw [Lw eJ]at hk;refine(hSr.2 k).2 ⟨hk.1,hk.2.imp (fun h=>HO h) fun h=>?_⟩;omega
     ·cases md with
      | true=>
       simp only [if_true];have cY:=hSr.1;rw [HO rfl]at cY;simp only [if_true]at cY;have:=(xf eJ v2 cY).1;rw [gp]at this;exact this
      | false=>
       simp only [Bool.false_eq_true,if_false];have:=Lv eJ (vB hSr).1;rw [gp]at this;refine⟨?_,this⟩;rw [dS,e1,←hw]
   ·cases hg
  ·cases hg
 ·cases hg
theorem P7{L:Nat→LC}: ∀{vcs:List BE} {f:F} {ρ:Env},VC P al (vcF vcs f) ρ L→(∀b∈vcs,b.prop ρ)∧VC P al f ρ L
 | [],f,ρ,h=>⟨by simp,h⟩
 | b::r,f,ρ,h=>by
  obtain⟨h1,h2⟩:=h;obtain⟨h3,h4⟩:=P7 (h2 h1);exact⟨fun c hc=>(List.mem_cons.1 hc).elim (fun e=>e▸h1) (h3 c),h4⟩
theorem Af(hp:List Ck)(i j:Nat): ∃σ:Nat→Nat,(∀a b,σ a=σ b→a=b)∧(∀k,k<hp.length→σ k<hp.length)∧(∀k,hp.length≤k→σ k=k)∧∀k,(swapAt hp i j)[k]? =hp[σ k]? :=by
 unfold swapAt;split
 ·rename_i d c hi hj;have li:=(aqo.1 hi).1;have lj:=(aqo.1 hj).1;refine⟨fun k=>if k=i then j else if k=j then i else k,fun a b=>?_,fun k hk=>?_,fun k hk=>?_,fun k=>?_⟩
  ·simp only;split<;>split<;>(try split)<;>(try split)<;>omega
  ·simp only;split
   ·exact lj
   ·split
    ·exact li
    ·exact hk
  ·simp only;rw [if_neg (by omega),if_neg (by omega)]
  ·simp only [List.getElem?_set,List.length_set];by_cases h1:k=i
   ·subst h1;by_cases h2:j=k
    ·subst h2;simp [li];exact(aqo.1 hi).2.symm
    ·rw [if_neg h2,if_pos rfl,if_pos rfl,if_pos li,hj]
   ·by_cases h2:k=j
    ·subst h2;rw [if_pos rfl,if_pos lj,if_neg h1,if_pos rfl,hi]
    ·rw [if_neg (fun e=>h2 e.symm),if_neg (fun e=>h1 e.symm),if_neg h1,if_neg h2]
 ·exact⟨fun k=>k,fun _ _ h=>h,fun _ h=>h,fun _ _=>rfl,fun _=>rfl⟩
theorem Ag(hp:List Ck)(i j:Nat):(swapAt hp i j).length=hp.length:=by
 unfold swapAt;split
 ·simp
 ·rfl
theorem P8{hp:List Ck}{i j:Nat}{p:Ck→Bool}(h:hp.all p=true):(swapAt hp i j).all p=true:=by
 obtain⟨σ,_,_,_,hg⟩:=Af hp i j;rw [aqn]at h ⊢;intro x hx;obtain⟨k,hk⟩:=List.getElem?_of_mem hx;rw [hg]at hk;exact h x (aqG hk)
theorem P9{hp:List Ck}{i j:Nat}{ρ:Env}{Fs:List HP}{w:World}(h:bG (hp.map (Ck.den ρ)++Fs) w):bG ((swapAt hp i j).map (Ck.den ρ)++Fs) w:=by
 obtain⟨σ,h1,h2,h3,h4⟩:=Af hp i j;refine h.ue (fun k=>some (σ k)) (fun k x hx=> .inr ⟨σ k,rfl,?_⟩) (fun a b c ha hb _ _=>h1 a b ?_)
 ·by_cases hk:k<hp.length
  ·rw [aqs (by rw [List.length_map,Ag];exact hk),List.getElem?_map,h4]at hx;rw [aqs (by rw [List.length_map];exact h2 k hk),List.getElem?_map];exact hx
  ·rw [aqt (by rw [List.length_map,Ag];omega),List.length_map,Ag]at hx;rw [h3 k (by omega),aqt (by rw [List.length_map];omega),List.length_map];exact hx
 ·rw [aqp]at ha hb;rw [ha,hb]
theorem FH{T:List TI}{st dO:St}{x:sr}{wr:zT}{L:Nat→LC}{f:F}(hg:er T st x=some (dO,wr))(h:HW Fs w0 st ρ w)(ha:HA st.fr st.nt ρ a)(hv:VC P al (gT [wr] f) ρ L):
  ∃bF,Env.Le ρ bF∧HW Fs w0 dO bF w∧HA dO.fr dO.nt bF a∧dO.fn=st.fn∧VC P al f bF L:=by
 cases wr with
 | nil=>
  obtain⟨g1,g2,g3,g4⟩:=Lu hg h ha;exact⟨_,Env.kj _ _,g1,g2,g4,hv⟩
 | same=>
  simp only [gT]at hv;cases x with
  | slot s t=>
   simp only [er]at hg;split at hg
   ·rw [aqq]at hg;obtain⟨_,_,he⟩:=hg;cases he
   ·cases hg
  | cell i j t=>
   simp only [er]at hg;split at hg
   ·split at hg
    ·rw [aqq]at hg;obtain⟨_,_,he⟩:=hg;cases he
    ·cases hg
   ·cases hg
  | cut s md=>
   simp only [er]at hg;split at hg
   ·rw [aqq]at hg;obtain⟨y,hy,he⟩:=hg;obtain⟨_,_,hw,_⟩:=jR (wr:=y.2) (dO:=y.1) hy h;simp only [aqX]at he;rw [he.2]at hw;cases hw
   ·cases hg
  | own s t=>
   simp only [er]at hg;split at hg
   ·rw [aqq]at hg;obtain⟨y,hy,he⟩:=hg;obtain⟨_,_,hw,_⟩:=nM (wr:=y.2) (dO:=y.1) hy h;simp only [aqX]at he;rw [he.2]at hw;cases hw
   ·cases hg
  | pw i j md=>
   simp only [er]at hg;split at hg
   ·split at hg
    ·split at hg
     ·rename_i s1 YB hy;obtain⟨_,_,hw,_⟩:=jR hy h;split at hg
      ·split at hg
       ·simp only [aqp,aqX]at hg;rw [hg.2]at hw;cases hw
       ·cases hg
      ·cases hg
     ·cases hg
    ·cases hg
   ·cases hg
  | marks=>simp [er]at hg
  | mark=>
   simp only [er]at hg;split at hg
   ·split at hg
    ·simp at hg
    ·cases hg
   ·simp only [aqp,aqX,and_true]at hg;subst hg;exact⟨ρ,Env.Le.refl _,h,ha,rfl,hv⟩
   ·cases hg
  | swap s i=>
   simp only [er]at hg;split at hg
   ·simp only [aqp,aqX,and_true]at hg;subst hg;exact⟨ρ,Env.Le.refl _,⟨h.lens,h.lx,P8 h.gj,h.ot,h.kn,P9 h.own,h.same,h.mw⟩,ha,rfl,hv⟩
   ·cases hg
 | sA=>
  simp only [gT,VC]at hv;cases x with
  | slot s t=>
   simp only [er]at hg;split at hg
   ·rw [aqq]at hg;obtain⟨_,_,he⟩:=hg;cases he
   ·cases hg
  | cell i j t=>
   simp only [er]at hg;split at hg
   ·split at hg
    ·rw [aqq]at hg;obtain⟨_,_,he⟩:=hg;cases he
    ·cases hg
   ·cases hg
  | cut s md=>
   simp only [er]at hg;split at hg
   ·rw [aqq]at hg;obtain⟨y,hy,he⟩:=hg;obtain⟨_,_,hw,_⟩:=jR (wr:=y.2) (dO:=y.1) hy h;simp only [aqX]at he;rw [he.2]at hw;cases hw
   ·cases hg
  | own s t=>
   simp only [er]at hg;split at hg
   ·rw [aqq]at hg;obtain⟨y,hy,he⟩:=hg;obtain⟨_,_,hw,_⟩:=nM (wr:=y.2) (dO:=y.1) hy h;simp only [aqX]at he;rw [he.2]at hw;cases hw
   ·cases hg
  | pw i j md=>
   simp only [er]at hg;split at hg
   ·split at hg
    ·split at hg
     ·rename_i s1 YB hy;obtain⟨_,_,hw,_⟩:=jR hy h;split at hg
      ·split at hg
       ·simp only [aqp,aqX]at hg;rw [hg.2]at hw;cases hw
       ·cases hg
      ·cases hg
     ·cases hg
    ·cases hg
   ·cases hg
  | marks=>
   simp only [er,aqp,aqX,and_true]at hg;subst hg;have hle:=Env.C9 ρ (oX []);have eV:=Env.Le.eH h.lens hle;have eG:st.aW.le {st.aW with b:=st.aW.b+1}:=by constructor<;>simp
   have hb:=iP ρ (oX []) h.lens.b;refine⟨_,hle,⟨h.lens.m_ _,cP eG h.lx,?_,fF eG h.ot,fun b hb=>(BE.iE eV (aqn.1 h.ot b hb)).1 (h.kn b hb),?_,h.same,?_⟩,?_,rfl,hv (oX [])⟩
   ·rw [List.all_append,ai];exact⟨ju eG h.gj,by simp [Ck.sc]⟩
   ·rw [List.map_append];refine bG.add (h.Ad hle) _ (fun _=>False) (Nat.le_refl _) (fun _ _=>rfl) ?_ (fun _ hk=>hk.elim);simp only [Ck.den,hb,oY];exact⟨by simp,by simp,by simp⟩
   ·rw [List.all_cons,ai];exact⟨by simp [MK.sc],dF eG h.mw⟩
   ·have vu:=ha.more h.lx h.mw eV;refine⟨?_,vu.size,vu.aU⟩;rw [vu.defers];simp only [marks,MK.blocks,List.flatMap_cons,hb,oY,List.nil_append]
  | mark=>
   simp only [er]at hg;split at hg;rotate_left
   ·simp at hg
   ·cases hg
   rename_i b c ds LL;split at hg;rotate_left
   ·cases hg
   rename_i i j hi hj;simp only [aqp,aqX,and_true]at hg;subst hg;have dy:st.hp[i]? =some (.JV b):=by
    rw [List.findIdx?_eq_some_iff_getElem]at hi;obtain⟨cq,hd,_⟩:=hi;cases hc:st.hp[i]with
    | JV b'=>
     rw [hc]at hd;simp only [Ck.BJ,beq_iff_eq]at hd;subst hd;rw [List.getElem?_eq_getElem cq,hc]
    | _=>rw [hc]at hd;simp [Ck.BJ]at hd
   have lO:st.hp[j]? =some (.tY c):=by
    rw [List.findIdx?_eq_some_iff_getElem]at hj;obtain⟨cq,hd,_⟩:=hj;cases hc:st.hp[j]with
    | tY b'=>
     rw [hc]at hd;simp only [Ck.v_,beq_iff_eq]at hd;subst hd;rw [List.getElem?_eq_getElem cq,hc]
    | _=>rw [hc]at hd;simp [Ck.v_]at hd
   have QM:=h.mw;rw [LL]at QM;simp only [List.all_cons,ai,MK.sc,aqB]at QM;generalize hl:ρ.bv.getD b 0::qk (ρ.bv.getD c 0)=l;have hle:=Env.C9 ρ (oX l);have eV:=Env.Le.eH h.lens hle;have eG:st.aW.le {st.aW with b:=st.aW.b+1}:=by constructor<;>simp
   have hb:=iP ρ (oX l) h.lens.b;refine⟨_,hle,⟨h.lens.m_ _,cP eG h.lx,?_,fF eG h.ot,fun b hb=>(BE.iE eV (aqn.1 h.ot b hb)).1 (h.kn b hb),?_,h.same,?_⟩,?_,rfl,hv (oX l)⟩
   ·refine aqn.2 fun q hq=>?_
    rcases aqT hq with hq | rfl
    ·rcases aqT hq with hq | rfl
     ·exact Ck.a_ eG (aqn.1 h.gj q hq)
     ·rfl
    ·simp [Ck.sc]
   ·have ho:=h.Ad hle;rw [List.map_set,List.map_set];have e1:(st.hp.map (Ck.den (ρ.m_ (oX l))))[i]? =some (yu (ρ.bv.getD b 0)):=by
     rw [List.getElem?_map,dy,Option.map_some,Ck.den,←eV.b b QM.1]
    have e2:(st.hp.map (Ck.den (ρ.m_ (oX l))))[j]? =some (lE (qk (ρ.bv.getD c 0))):=by
     rw [List.getElem?_map,lO,Option.map_some,Ck.den,←eV.b c QM.2.1]
    have:=ho.FG e1 e2 (by rintro rfl;rw [dy]at lO;cases lO);rw [hl]at this;rw [show(Ck.tY st.aW.b).den (ρ.m_ (oX l))=lE l by simp only [Ck.den,hb,oY]];exact this
   ·rw [List.all_cons,ai];exact⟨by simp [MK.sc],dF eG QM.2.2⟩
   ·have vu:=ha.more h.lx h.mw eV;refine⟨?_,vu.size,vu.aU⟩;rw [ha.defers,LL];rw [show marks ρ (.one b:: .many c::ds)=l.map (fun b=>{target:= .collected b,args:= #[]})++marks ρ ds by simp [marks,MK.blocks,←hl],uo eV QM.2.2];simp only [marks,MK.blocks,List.flatMap_cons,hb,oY,List.map_append]
  | swap s i=>
   simp only [er]at hg;split at hg
   ·simp at hg
   ·cases hg
 | cut vcs=>
  simp only [gT]at hv;obtain⟨bY,hv⟩:=P7 hv;simp only [VC]at hv;cases x with
  | slot s t=>
   simp only [er]at hg;split at hg
   ·rw [aqq]at hg;obtain⟨_,_,he⟩:=hg;cases he
   ·cases hg
  | cell i j t=>
   simp only [er]at hg;split at hg
   ·split at hg
    ·rw [aqq]at hg;obtain⟨_,_,he⟩:=hg;cases he
    ·cases hg
   ·cases hg
  | cut s md=>
   simp only [er]at hg;split at hg
   ·rename_i x hl;rw [aqq]at hg;obtain⟨⟨s1,YB⟩,hy,he⟩:=hg;cases he;obtain⟨abZ,jV,uS,hHW,e1,e2,e3,e4,_⟩:=jR hy h;cases uS;have h1:=hHW bY;have hle:=Env.kj ρ ⟨x.val ρ,jV⟩;have eV:=Env.Le.eH h.lens hle;have vu:=ha.more h.lx h.mw eV;have wJ:(SV.vv st.aW.v).sc s1.aW=true:=by rw [e4];simp [SV.sc]
    refine⟨_,hle,h1.put wJ,⟨by rw [(eI _ _ _).2.2.2.1,e2];exact vu.defers,by rw [(eI _ _ _).2.2.2.1,e2];exact ha.size,fun q v hq=>?_⟩,by rw [(eI _ _ _).2.2.2.2,e3],hv _⟩;simp only [St.put]at hq;unfold look at hq;split at hq
    ·rename_i Ji;rw [beq_iff_eq]at Ji;subst Ji;cases hq;rw [ha.aU _ _ hl];simp only [SV.val,eA ρ _ h.lens.v]
    ·rename_i Ji;rw [nK s _ q (fun e=>Ji (by simp [e])),e1]at hq;exact vu.aU q v hq
   ·cases hg
  | own s t=>
   simp only [er]at hg;split at hg
   ·rename_i x hl;rw [aqq]at hg;obtain⟨⟨s1,YB⟩,hy,he⟩:=hg;cases he;obtain⟨abZ,jV,uS,h1,e1,e2,e3,e4⟩:=nM hy h;cases uS;have hle:=Env.kj ρ ⟨x.val ρ,jV⟩;have eV:=Env.Le.eH h.lens hle;have vu:=ha.more h.lx h.mw eV;have wJ:(SV.vv st.aW.v).sc s1.aW=true:=by rw [e4];simp [SV.sc]
    refine⟨_,hle,h1.put wJ,⟨by rw [(eI _ _ _).2.2.2.1,e2];exact vu.defers,by rw [(eI _ _ _).2.2.2.1,e2];exact ha.size,fun q v hq=>?_⟩,by rw [(eI _ _ _).2.2.2.2,e3],hv _⟩;simp only [St.put]at hq;unfold look at hq;split at hq
    ·rename_i Ji;rw [beq_iff_eq]at Ji;subst Ji;cases hq;rw [ha.aU _ _ hl];simp only [SV.val,eA ρ _ h.lens.v]
    ·rename_i Ji;rw [nK s _ q (fun e=>Ji (by simp [e])),e1]at hq;exact vu.aU q v hq
   ·cases hg
  | pw i j md=>
   simp only [er]at hg;split at hg
   ·rename_i b wr cs hi;split at hg
    ·rename_i x hj;split at hg
     ·rename_i s1 YB hy;obtain⟨abZ,jV,uS,hHW,e1,e2,e3,e4,jj,md0,v0,t0,s0,n0,Y9,ck,e5,e6⟩:=jR hy h;split at hg
      ·rename_i b' w' tI dy;split at hg
       ·cases hg;cases uS;have h1:=hHW bY;have hle:=Env.kj ρ ⟨x.val ρ,jV⟩;have eV:=Env.Le.eH h.lens hle;have vu:=ha.more h.lx h.mw eV;have wJ:(SV.vv st.aW.v).sc s1.aW=true:=by rw [e4];simp [SV.sc]
        have fg:jj≠i:=by
         intro e;subst e;rw [hi]at e5;cases e5
        have IY:s1.hp[i]? =some (.row b wr cs):=by
         rw [e6,aqO fg];exact hi
        have HZ:=aqn.1 h1.gj _ (aqG IY);simp only [Ck.sc,ai]at HZ;have Gg:x.sc st.aW=true:=by
         have:=aqn.1 h.gj _ (aqG hi);simp only [Ck.sc,ai]at this;have key: ∀{l:List SV} {k:Nat} {y:SV},SV.pN st.aW l=true→l[k]? =some y→y.sc st.aW=true:=by
          intro l
          induction l with
          | nil=>intro k y _ hy;simp at hy
          | cons z r ih=>
           intro k y hl hy;simp only [SV.pN,ai]at hl;cases k with
           | zero=>simp at hy;subst hy;exact hl.1
           | succ k=>exact ih hl.2 (by simpa using hy)
         exact key this.2 hj
        have Q_:x.plain=true:=by
         unfold zU at hy;split at hy
         ·rename_i r hr;cases x<;>first | rfl | simp [gL]at hr
         ·cases hy
        have y0:(Ck.row b wr (cs.set j (.vv st.aW.v))).den (ρ.ig ⟨x.val ρ,jV⟩)=(Ck.row b wr cs).den (ρ.ig ⟨x.val ρ,jV⟩):=by
         simp only [Ck.den];rw [tl hj];rw [iK _ Q_,←(SV.vo eV Gg).1];simp only [SV.cells,eA ρ _ h.lens.v]
        have HY:(s1.hp.set i (.row b wr (cs.set j (.vv st.aW.v)))).map (Ck.den (ρ.ig ⟨x.val ρ,jV⟩))=s1.hp.map (Ck.den (ρ.ig ⟨x.val ρ,jV⟩)):=by
         rw [List.map_set,y0];apply List.ext_getElem?;intro q;rw [List.getElem?_set];split
         ·rename_i hq;subst hq;split
          ·rw [List.getElem?_map,IY];rfl
          ·rename_i cq;rw [aq3 (by omega)]
         ·rfl
        refine⟨_,hle,⟨h1.lens,h1.lx,?_,h1.ot,h1.kn,by rw [HY];exact h1.own,h1.same,h1.mw⟩,⟨by rw [e2];exact vu.defers,by rw [e2];exact ha.size,by rw [e1];exact vu.aU⟩,e3,hv _⟩;refine aqn.2 fun q hq=>?_
        rcases aqT hq with hq | rfl
        ·exact aqn.1 h1.gj q hq
        ·simp only [Ck.sc,ai];exact⟨HZ.1,C_ HZ.2 wJ⟩
       ·cases hg
      ·cases hg
     ·cases hg
    ·cases hg
   ·cases hg
  | marks=>simp [er]at hg
  | mark=>
   simp only [er]at hg;split at hg
   ·split at hg
    ·simp at hg
    ·cases hg
   ·simp at hg
   ·cases hg
  | swap s i=>
   simp only [er]at hg;split at hg
   ·simp at hg
   ·cases hg
theorem Da(x:zT)(r:List zT)(f:F):gT (x::r) f=gT [x] (gT r f):=by cases x<;>rfl
theorem ko{T:List TI}{L:Nat→LC}{f:F}: ∀{xs:List sr} {st dO:St} {n:List zT} {ρ:Env},tg T st xs=some (dO,n)→HW Fs w0 st ρ w→HA st.fr st.nt ρ a→VC P al (gT n f) ρ L→
  ∃bF,Env.Le ρ bF∧HW Fs w0 dO bF w∧HA dO.fr dO.nt bF a∧dO.fn=st.fn∧VC P al f bF L
 | [],st,dO,n,ρ,h,hw,ha,hv=>by
  simp only [tg,aqp,aqX]at h;obtain⟨rfl,rfl⟩:=h;exact⟨ρ,Env.Le.refl _,hw,ha,rfl,hv⟩
 | x::xs,st,dO,n,ρ,h,hw,ha,hv=>by
  unfold tg at h;split at h
  ·rename_i s1 h1;split at h
   ·rename_i s2 k h2;simp only [aqp,aqX]at h;obtain⟨rfl,rfl⟩:=h;rw [Da]at hv;obtain⟨rz,g0,g1,g2,g4,g5⟩:=FH h1 hw ha hv;obtain⟨bF,q1,q2,q3,q5,q6⟩:=ko h2 g1 g2 g5;exact⟨bF,g0.trans q1,q2,q3,q5.trans g4,q6⟩
   ·cases h
  ·cases h
end
end Go.RX
