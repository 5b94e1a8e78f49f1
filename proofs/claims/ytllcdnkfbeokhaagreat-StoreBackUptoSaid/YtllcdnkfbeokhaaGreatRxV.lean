/- Executor. -/
import Derived.Test.YtllcdnkfbeokhaaGreatRxU
open Bool renaming and_eq_true → ai
open Int renaming toNat → ag
open List renaming all_eq_true → auo, getElem?_append_left → auu, getElem?_append_right → auv, getElem?_eq_getElem → auU, getElem?_eq_none → au0, getElem?_eq_some_iff → aup, getElem?_set_ne → auV, length_map → auJ, mem_of_getElem? → auM, mem_or_eq_of_mem_set → au1
open Nat renaming blt_eq → auF
open Option renaming getD_some → au8, map_eq_some_iff → aus
open Option.some renaming injEq → auq
open Prod.mk renaming injEq → au2
namespace Go.RX
section
variable {P:Program} {C:Ctx} {al:Value→List HP→Prop} {Fs:List HP} {w0:World} {ρ:Env} {a:Act} {w:World}
theorem Env.Fb(ρ:Env)(b:Nat):Env.Le ρ (ρ.nV b):=by rw [Env.UK];exact Env.iS _ _
theorem Env.kS(ρ:Env)(v:V1):Env.Le ρ (ρ.iQ v):=by rw [Env.UL];exact Env.iS _ _
theorem iG.nV{c:cG}(h:iG ρ c)(b:Nat):iG (ρ.nV b) {c with b:=c.b+1}:=
 ⟨by simp [Env.nV,h.b],h.v,h.i,h.a,h.bo,h.p,h.r⟩
theorem iG.iQ{c:cG}(h:iG ρ c)(v:V1):iG (ρ.iQ v) {c with v:=c.v+1}:=
 ⟨h.b,by simp [Env.iQ,h.v],h.i,h.a,h.bo,h.p,h.r⟩
theorem eR(ρ:Env)(v:V1){n:Nat}(h:ρ.vv.length=n):(ρ.iQ v).vv.getD n V1.nil=v:=by
 subst h;simp [Env.iQ]
theorem jo(ρ:Env)(b:Nat){n:Nat}(h:ρ.bv.length=n):(ρ.nV b).bv.getD n 0=b:=by
 subst h;simp [Env.nV]
theorem uM{ρ:Env}: ∀{cs:List SV} {j:Nat} {x y:SV},cs[j]? =some x→SV.cells ρ y=SV.cells ρ x→SV.ao ρ (cs.set j y)=SV.ao ρ cs
 | [],j,x,y,h,_=>by simp at h
 | c::cs,0,x,y,h,e=>by
  simp only [List.getElem?_cons_zero,auq]at h;subst h;simp only [List.set_cons_zero,SV.ao,e]
 | c::cs,j+1,x,y,h,e=>by
  simp only [List.getElem?_cons_succ]at h;simp only [List.set_cons_succ,SV.ao,uM h e]
theorem Fc{c:cG}: ∀{cs:List SV} {j:Nat} {y:SV},SV.qM c cs=true→y.sc c=true→SV.qM c (cs.set j y)=true
 | [],j,y,h,_=>by simpa using h
 | x::cs,0,y,h,e=>by
  simp only [SV.qM,ai]at h;simp only [List.set_cons_zero,SV.qM,ai];exact⟨e,h.2⟩
 | x::cs,j+1,y,h,e=>by
  simp only [SV.qM,ai]at h;simp only [List.set_cons_succ,SV.qM,ai];exact⟨h.1,Fc h.2 e⟩
theorem HW.BV{st:St}{bJ:Env}(h:HW Fs w0 st ρ w)(hle:Env.Le ρ bJ):bz (st.hp.map (Ck.den bJ)++Fs) w:=by
 rw [←lF (Env.Le.e9 h.lens hle) h.gP];exact h.own
theorem yJ{T:List TI}{st d_:St}{t:Nat}(hg:LU T st t=some d_)(h:HW Fs w0 st ρ w):
  HW Fs w0 d_ (ρ.iQ ⟨.slice none 0 0,rfl⟩) w∧d_.fr=st.fr∧d_.nt=st.nt∧d_.fn=st.fn∧d_.a_={st.a_ with v:=st.a_.v+1}∧∃ck,d_.hp=st.hp++[ck]:=by
 unfold LU at hg;split at hg
 ·rename_i ti aA dc fu;split at hg
  ·rename_i jM;cases hg;have hle:=Env.kS ρ ⟨.slice none 0 0,rfl⟩;have eV:st.a_.le {st.a_ with v:=st.a_.v+1}:=by constructor<;>simp
   refine⟨⟨h.lens.iQ _,de eV h.mj,?_,gg eV h.o9,fun b hb=>?_,?_,h.same,dU eV h.ng⟩,rfl,rfl,rfl,rfl,_,rfl⟩
   ·rw [List.all_append,ai];refine⟨jN eV h.gP,?_⟩;simp only [List.all_cons,List.all_nil,Ck.sc,E.sc,Bool.and_true,ai,auF];exact⟨Nat.lt_succ_self _,ku eV jM⟩
   ·exact(BE.i_ (Env.Le.e9 h.lens hle) (auo.1 h.o9 b hb)).1 (h.kn b hb)
   ·rw [List.map_append];refine bz.add (h.BV hle) _ (fun _=>False) (Nat.le_refl _) (fun _ _=>rfl) ?_ (fun _ hk=>hk.elim);simp only [Ck.den,eR ρ _ h.lens.v];refine⟨?_,fun k=>by simp [Value.ownBlock]⟩;simp only [if_true];exact np w t ti.size
  ·cases hg
 ·cases hg
theorem bz.weaken{a b:List HP}{w:World}{S:Nat→Nat→Prop}(h:Sep (a++b) S w)(i:Nat)(h0 h':HP)(hi:a[i]? =some h0)(hw:h'.wr=true→h0.wr=true)
  (S':Nat→Prop) (fi: ∀k,S' k→S i k) (hp:h'.p w S'):bz (a.set i h'++b) w:=by
 have cF:i<a.length:=(aup.1 hi).1;have cD:(a++b)[i]? =some h0:=by rw [auu cF];exact hi
 have hold: ∀(j:Nat) x,(a.set i h'++b)[j]? =some x→∃y,(a++b)[j]? =some y∧(x.wr=true→y.wr=true)∧(j≠i→x=y)∧(j=i→x=h'):=by
  intro j x hx;by_cases hj:j=i
  ·subst hj;rw [auu (by simpa using cF),List.getElem?_set_self cF]at hx;cases hx;exact⟨h0,cD,hw,fun h=>absurd rfl h,fun _=>rfl⟩
  ·refine⟨x,?_,id,fun _=>rfl,fun h=>absurd h hj⟩;by_cases hja:j<a.length
   ·rw [auu (by simpa using hja),auV (Ne.symm hj)]at hx;rw [auu hja];exact hx
   ·rw [auv (by simp;omega),List.length_set]at hx;rw [auv (by omega)];exact hx
 have Tw: ∀j k,(if j=i then S' k else S j k)→S j k:=by
  intro j k hk;split at hk
  ·rename_i hj;subst hj;exact fi k hk
  ·exact hk
 refine⟨fun j k=>if j=i then S' k else S j k,⟨fun j x hx=>?_,fun j k x y fy hx hy wF q h1 h2=>?_⟩⟩
 ·obtain⟨y,hy,_,h1,h2⟩:=hold j x hx;obtain⟨hpy,hb⟩:=h.at_ j y hy;refine⟨?_,fun k hk=>hb k (Tw j k hk)⟩;by_cases hj:j=i
  ·subst hj;rw [h2 rfl];simp only [if_true];exact hp
  ·rw [h1 hj];simp only [hj,if_false];exact hpy
 ·obtain⟨x',V_,wx,_,_⟩:=hold j x hx;obtain⟨y',hy',wy,_,_⟩:=hold k y hy;exact h.apart j k x' y' fy V_ hy' (wF.imp wx wy) q (Tw j q h1) (Tw k q h2)
theorem oH{st d_:St}{x:SV}{ty:Nat}{wr:BH}(hg:Tl st x ty=some (d_,wr))(h:HW Fs w0 st ρ w):
  ∃vcs kE,wr= .cut vcs∧HW Fs w0 d_ (ρ.iQ ⟨x.val ρ,kE⟩) w∧d_.fr=st.fr∧d_.nt=st.nt∧d_.fn=st.fn∧d_.a_={st.a_ with v:=st.a_.v+1}:=by
 unfold Tl at hg;split at hg
 case h_2=>cases hg
 rename_i b ix s n m;split at hg
 case h_2=>cases hg
 rename_i j b' cs q UE hix hn;split at hg
 case h_2=>cases hg
 rename_i ki kl a ML;split at hg
 case isFalse=>cases hg
 rename_i hc;obtain⟨rfl,rfl,hq,P5,hqb,hsa⟩:=hc;cases hg;have hnn:n.den ρ 0=(q:Int):=bZ (ρ:=ρ) hn;have hii:ix.den ρ 0=((0:Nat):Int):=bZ (ρ:=ρ) hix;have IQ:(SV.sl b ix 1 n n).val ρ= .slice (some ⟨ρ.bv.getD b 0,0,none⟩) q q:=by simp [SV.val,hnn,hii]
 obtain⟨hj,dH⟩:=dD UE;simp only [Ck.s5,beq_iff_eq]at dH;subst dH;obtain⟨S,hS⟩:=h.own;have db:Reads st.hp ρ w S [j]:=by
  intro j _ ck hj;refine(hS.at_ j (ck.den ρ) ?_).1;rw [auu (by simpa using (aup.1 hj).1),List.getElem?_map,hj];rfl
 have hSr:=db j (by simp) _ hj;have gU:SV.ao ρ cs=aj ki q (a.den ρ):=by
  have UH:=ia (ρ:=ρ) ML;rw [P5,List.length_replicate,pZ]at UH;exact UH
 have hlen:(SV.ao ρ cs).length=q:=by rw [gU,aE]
 have MI:(ak (ρ.bv.getD b 0) true (SV.ao ρ cs)).p w (S j):=hSr;have du:=F4 (t:=ty) MI (by rw [hlen];unfold maxLen;omega);rw [hlen,gU]at du;refine⟨[],by rw [IQ];rfl,rfl,?_,rfl,rfl,rfl,rfl⟩;have kE:((SV.sl b ix 1 n n).val ρ).oneCell'=true:=by rw [IQ];rfl
 have hle:=Env.kS ρ ⟨(SV.sl b ix 1 n n).val ρ,kE⟩;have fA:=Env.Le.e9 h.lens hle;have eV:st.a_.le {st.a_ with v:=st.a_.v+1}:=by constructor<;>simp
 refine⟨h.lens.iQ _,de eV h.mj,?_,gg eV h.o9,fun b hb=>(BE.i_ fA (auo.1 h.o9 b hb)).1 (h.kn b hb),?_,h.same,dU eV h.ng⟩
 ·refine auo.2 fun z hz=>?_
  rcases au1 hz with hz | rfl
  ·exact Ck.bg eV (auo.1 h.gP z hz)
  ·simp only [Ck.sc,ai,auF,List.all_cons,List.all_nil,bP.sc,CK.sc,E.sc,and_true];exact⟨Nat.lt_succ_self _,E.bg eV hsa⟩
 ·simp only [List.map_set];have Kl:st.hp.map (Ck.den (ρ.iQ ⟨(SV.sl b ix 1 n n).val ρ,kE⟩))=st.hp.map (Ck.den ρ):=(lF fA h.gP).symm;rw [Kl];have As:(Ck.cC true st.a_.v ty 1 (.lit (q:Int)) [⟨.int ki,1,a⟩]).den (ρ.iQ ⟨(SV.sl b ix 1 n n).val ρ,kE⟩)=aB true ty 1 (.slice (some ⟨ρ.bv.getD b 0,0,none⟩) q q) q (aj ki q (a.den ρ)):=by
   simp only [Ck.den,eR ρ _ h.lens.v];rw [ei,←E.bU fA hsa];have hqd: ∀r:Env,((E.lit (q:Int)).den r 0).toNat=q:=fun r=>by show ag (q:Int)=q;omega
   rw [hqd,IQ]
  rw [As];refine bz.weaken hS j _ _ (by rw [List.getElem?_map,hj];rfl) (fun _=>rfl) (fun k=>(Value.slice (some ⟨ρ.bv.getD b 0,0,none⟩) q q).ownBlock=some k∧(true=true∨0<q)) (fun k hk=>?_) ⟨?_,fun k=>Iff.rfl⟩
  ·refine(MI.1 k).2 ?_;have:=hk.1;simp only [Value.ownBlock,auq]at this
   first | exact this.symm | exact this
  ·simp only [if_true];exact du
theorem OR{T:List TI}{st d_:St}{x:tL}(hg:eI T st x=some (d_,.nil))(h:HW Fs w0 st ρ w)(ha:HA st.fr st.nt ρ a):
  HW Fs w0 d_ (ρ.iQ ⟨.slice none 0 0,rfl⟩) w∧HA d_.fr d_.nt (ρ.iQ ⟨.slice none 0 0,rfl⟩) a∧d_.nt=st.nt∧d_.fn=st.fn:=by
 have hle:=Env.kS ρ ⟨.slice none 0 0,rfl⟩;have fA:=Env.Le.e9 h.lens hle;have w9:=ha.more h.mj h.ng fA;cases x with
 | slot s t=>
  simp only [eI]at hg;split at hg
  ·rename_i hl;rw [aus]at hg;obtain⟨s1,kZ,Ir⟩:=hg;cases Ir;obtain⟨h1,e1,e2,e3,e4,ck,e5⟩:=yJ kZ h;have hv:(SV.vv st.a_.v).sc s1.a_=true:=by rw [e4];simp [SV.sc]
   refine⟨h1.put hv,⟨by rw [(fb _ _ _).2.2.2.1,e2];exact w9.defers,by rw [(fb _ _ _).2.2.2.1,e2];exact ha.size,fun q v hq=>?_⟩,by rw [(fb _ _ _).2.2.2.1,e2],by rw [(fb _ _ _).2.2.2.2,e3]⟩;simp only [St.put]at hq;unfold look at hq;split at hq
   ·rename_i Mc;rw [beq_iff_eq]at Mc;subst Mc;cases hq;rw [ha.aX _ _ hl];simp only [SV.val,eR ρ _ h.lens.v]
   ·rename_i Mc;rw [oF s _ q (fun e=>Mc (by simp [e])),e1]at hq;exact w9.aX q v hq
  ·cases hg
 | cell i j t=>
  simp only [eI]at hg;split at hg
  ·rename_i b wr cs hi;split at hg
   ·rename_i hj;rw [aus]at hg;obtain⟨s1,kZ,Ir⟩:=hg;cases Ir;obtain⟨h1,e1,e2,e3,e4,ck,e5⟩:=yJ kZ h;have hv:(SV.vv st.a_.v).sc s1.a_=true:=by rw [e4];simp [SV.sc]
    have cD:s1.hp[i]? =some (.row b wr cs):=by
     rw [e5,auu (aup.1 hi).1];exact hi
    have Km:=auo.1 h1.gP _ (auM cD);simp only [Ck.sc,ai]at Km;have As:(Ck.row b wr (cs.set j (.vv st.a_.v))).den (ρ.iQ ⟨.slice none 0 0,rfl⟩)=(Ck.row b wr cs).den (ρ.iQ ⟨.slice none 0 0,rfl⟩):=by
     simp only [Ck.den];rw [uM hj];simp only [SV.cells,eR ρ _ h.lens.v]
    have Kl:(s1.hp.set i (.row b wr (cs.set j (.vv st.a_.v)))).map (Ck.den (ρ.iQ ⟨.slice none 0 0,rfl⟩))=s1.hp.map (Ck.den (ρ.iQ ⟨.slice none 0 0,rfl⟩)):=by
     rw [List.map_set,As];apply List.ext_getElem?;intro q;rw [List.getElem?_set];split
     ·rename_i hq;subst hq;split
      ·rw [List.getElem?_map,cD];rfl
      ·rename_i cF;rw [au0 (by omega)]
     ·rfl
    refine⟨⟨h1.lens,h1.mj,?_,h1.o9,h1.kn,by rw [Kl];exact h1.own,h1.same,h1.ng⟩,⟨by rw [e2];exact w9.defers,by rw [e2];exact ha.size,by rw [e1];exact w9.aX⟩,e2,e3⟩;refine auo.2 fun q hq=>?_
    rcases au1 hq with hq | rfl
    ·exact auo.1 h1.gP q hq
    ·simp only [Ck.sc,ai];exact⟨Km.1,Fc Km.2 hv⟩
   ·cases hg
  ·cases hg
 | cut s md=>
  simp only [eI]at hg;split at hg
  ·rw [aus]at hg;obtain⟨y,hy,he⟩:=hg;exfalso;unfold BI at hy;split at hy
   ·split at hy
    ·split at hy
     ·cases hy;cases he
     ·cases hy
    ·cases hy
   ·cases hy
  ·cases hg
 | own s t=>
  simp only [eI]at hg;split at hg
  ·rw [aus]at hg;obtain⟨y,hy,he⟩:=hg;exfalso;obtain⟨_,_,hw,_⟩:=oH (wr:=y.2) (d_:=y.1) hy h;simp only [au2]at he;rw [he.2]at hw;cases hw
  ·cases hg
 | qv i j md=>
  simp only [eI]at hg;split at hg
  ·split at hg
   ·split at hg
    ·rename_i m5 wr1 hy;exfalso;have:wr1≠ .nil:=by
      unfold BI at hy;split at hy
      ·split at hy
       ·split at hy
        ·cases hy;simp
        ·cases hy
       ·cases hy
      ·cases hy
     split at hg
     ·split at hg
      ·simp only [auq,au2]at hg;exact this hg.2
      ·cases hg
     ·cases hg
    ·cases hg
   ·cases hg
  ·cases hg
 | marks=>simp [eI]at hg
 | mark=>
  simp only [eI]at hg;split at hg
  ·split at hg
   ·simp at hg
   ·cases hg
  ·simp at hg
  ·cases hg
 | swap s i=>
  simp only [eI]at hg;split at hg
  ·simp at hg
  ·cases hg
theorem bz.H4{a b:List HP}{w:World}{i j k:Nat}{l:List Nat}(h:bz (a++b) w)(hi:a[i]? =some (zQ k))(hj:a[j]? =some (mv l))(nR:i≠j):
  bz ((a.set i HP.emp).set j (mv (k::l))++b) w:=by
 obtain⟨S,hS⟩:=h;have DV:i<a.length:=(aup.1 hi).1;have hjl:j<a.length:=(aup.1 hj).1;have L_:(a++b)[i]? =some (zQ k):=by rw [auu DV];exact hi
 have hj2:(a++b)[j]? =some (mv l):=by rw [auu hjl];exact hj
 obtain⟨⟨p1,p2⟩,p3⟩:=hS.at_ i _ L_;obtain⟨⟨q1,q2,q3⟩,q4⟩:=hS.at_ j _ hj2;have Mw:w.heap[k]? =some (.deferred (some [])):=p2;have hap: ∀x,S i x→¬S j x:=hS.apart i j _ _ nR L_ hj2 (.inl rfl);have old: ∀(m:Nat) x,((a.set i HP.emp).set j (mv (k::l))++b)[m]? =some x→(m=i∧x=HP.emp)∨(m=j∧x=mv (k::l))∨(m≠i∧m≠j∧(a++b)[m]? =some x):=by
  intro m x hx;by_cases hma:m<a.length
  ·rw [auu (by simpa using hma)]at hx;by_cases hmj:m=j
   ·subst hmj;rw [List.getElem?_set_self (by simpa using hma)]at hx;cases hx;exact .inr (.inl ⟨rfl,rfl⟩)
   ·rw [auV (Ne.symm hmj)]at hx;by_cases L4:m=i
    ·subst L4;rw [List.getElem?_set_self hma]at hx;cases hx;exact .inl ⟨rfl,rfl⟩
    ·rw [auV (Ne.symm L4)]at hx;exact .inr (.inr ⟨L4,hmj,by rw [auu hma];exact hx⟩)
  ·rw [auv (by simp;omega)]at hx;simp only [List.length_set]at hx;exact .inr (.inr ⟨by omega,by omega,by rw [auv (by omega)];exact hx⟩)
 refine⟨fun m x=>if m=i then False else if m=j then S i x∨S j x else S m x,⟨fun m x hx=>?_,fun m n x y zb hx hy wF z h1 h2=>?_⟩⟩
 ·rcases old m x hx with⟨rfl,rfl⟩ | ⟨rfl,rfl⟩ | ⟨h1,h2,h3⟩
  ·simp only [if_true];exact⟨fun _ h=>h,fun _ h=>h.elim⟩
  ·simp only [Ne.symm nR,if_false,if_true];refine⟨⟨fun x=>?_,?_,fun b hb=>?_⟩,fun x hx=>hx.elim (p3 x) (q4 x)⟩
   ·simp only [p1,q1,List.mem_cons]
   ·exact List.nodup_cons.2 ⟨fun hk=>hap k ((p1 k).2 rfl) ((q1 k).2 hk),q2⟩
   ·rcases List.mem_cons.1 hb with rfl | hb
    ·exact Mw
    ·exact q3 b hb
  ·simp only [h1,h2,if_false];exact hS.at_ m x h3
 ·rcases old m x hx with⟨rfl,rfl⟩ | ⟨rfl,rfl⟩ | ⟨h3,h4,h5⟩
  ·simp only [if_true]at h1
  ·simp only [Ne.symm nR,if_false,if_true]at h1;rcases old n y hy with⟨rfl,rfl⟩ | ⟨rfl,rfl⟩ | ⟨h6,h7,h8⟩
   ·simp only [if_true]at h2
   ·exact zb rfl
   ·simp only [h6,h7,if_false]at h2;exact h1.elim (fun h1=>hS.apart i n _ _ (Ne.symm h6) L_ h8 (.inl rfl) z h1 h2) (fun h1=>hS.apart m n _ _ (Ne.symm h7) hj2 h8 (.inl rfl) z h1 h2)
  ·simp only [h3,h4,if_false]at h1;rcases old n y hy with⟨rfl,rfl⟩ | ⟨rfl,rfl⟩ | ⟨h6,h7,h8⟩
   ·simp only [if_true]at h2
   ·simp only [Ne.symm nR,if_false,if_true]at h2;exact h2.elim (fun h2=>hS.apart m i _ _ h3 h5 L_ (.inr rfl) z h1 h2) (fun h2=>hS.apart m n _ _ h4 h5 hj2 (.inr rfl) z h1 h2)
   ·simp only [h6,h7,if_false]at h2;exact hS.apart m n _ _ zb h5 h8 wF z h1 h2
theorem OS{s:Nat}{v x:Value}{n:E}{p:Part}{cs:List Value}(h:nA ρ s v x n p)(hv:World.views w v (n.den ρ 0).toNat cs):
  World.views w x (p.len.den ρ 0).toNat ((cs.drop ((p.lo.den ρ 0).toNat*s)).take ((p.len.den ρ 0).toNat*s)):=by
 obtain⟨h1,h2,h3,a,c,k,rfl,hc,rfl,hk⟩:=h;obtain⟨a',m,c',he,rfl,Us,kI,hr⟩:=hv;cases he;have MJ:(p.lo.den ρ 0).toNat+(p.len.den ρ 0).toNat≤((p.mx.map fun m=>m.den ρ 0).map ag).getD c∨(p.len.den ρ 0).toNat=0:=by
  cases hm:(p.mx.map fun m=>m.den ρ 0)with
  | none=>simp only [Option.map_none,Option.getD_none];omega
  | some m=>have:=h3 m hm;simp only [Option.map_some,au8];omega
 refine⟨_,_,_,rfl,rfl,by omega,?_,?_⟩
 ·intro hn;cases a with
  | none=>have:=kI rfl;omega
  | some a=>cases hn
 ·intro ad had;rw [aus]at had;obtain⟨a0,rfl,rfl⟩:=had;obtain⟨hs,lX⟩:=hr a0 rfl;refine⟨fun _=>OP _ _ (hs (by omega)),fun j u hu=>?_⟩;rw [List.getElem?_take]at hu;split at hu
  ·rename_i hj;have hN:(p.len.den ρ 0).toNat≠0:=by intro h;rw [h,Nat.zero_mul]at hj;omega
   rw [List.getElem?_drop]at hu;rw [hk (.inl (by omega)),dM];exact lX _ _ hu
  ·cases hu
theorem OT{s:Nat}{v x:Value}{n:E}{p:Part}(h:nA ρ s v x n p):x.ownBlock=v.ownBlock:=by
 obtain⟨h1,h2,h3,a,c,k,rfl,hc,rfl,hk⟩:=h;cases a with
 | none=>rfl
 | some a=>
  simp only [Option.map_some,Value.ownBlock,Addr.add];split<;>rfl
theorem kB{st d_:St}{x:SV}{md:Bool}{wr:BH}(hg:BI st x md=some (d_,wr))(h:HW Fs w0 st ρ w):
  ∃vcs kE,wr= .cut vcs∧((∀b∈vcs,b.prop ρ)→HW Fs w0 d_ (ρ.iQ ⟨x.val ρ,kE⟩) w)∧d_.fr=st.fr∧d_.nt=st.nt∧d_.fn=st.fn∧d_.a_={st.a_ with v:=st.a_.v+1}∧
   ∃j md0 v0 t s n aA ck,st.hp[j]? =some (.cC md0 v0 t s n aA)∧d_.hp=st.hp.set j ck:=by
 unfold BI at hg;split at hg
 ·rename_i r hr;split at hg
  ·rename_i aA fu;split at hg
   ·rename_i hc;obtain⟨hw,Kd,kZ,yY⟩:=hc;cases hg;have kE:(x.val ρ).oneCell'=true:=by
     have iz:=ρ.ok;cases x with
     | vv i=>exact iz.vvD i
     | jJ v cs s=>exact oM _ _ _ _ (ρ.vv.getD v V1.nil).one
     | _=>simp [ic]at hr
    obtain⟨S,hS⟩:=h.own;have db:Reads st.hp ρ w S [r.j]:=by
     intro j _ ck hj;refine(hS.at_ j (ck.den ρ) ?_).1;rw [auu (by simpa using (aup.1 hj).1),List.getElem?_map,hj];rfl
    have hj:st.hp[r.j]? =some (.cC r.md r.v r.t r.s r.n r.aA):=by
     unfold ic at hr;split at hr
     ·split at hr
      ·rename_i hf;cases hr;obtain⟨hj,dH⟩:=cZ hf;simp only [Ck.mI,beq_iff_eq]at dH;subst dH;exact hj
      ·cases hr
     ·split at hr
      ·rename_i hf;split at hr
       ·rename_i hss;cases hr;obtain⟨hj,dH⟩:=cZ hf;simp only [Ck.mI,beq_iff_eq]at dH;subst dH;exact hj
       ·cases hr
      ·cases hr
     ·cases hr
    refine⟨_,kE,rfl,fun cd=>?_,rfl,rfl,rfl,rfl,r.j,_,_,_,_,_,_,_,hj,rfl⟩;obtain⟨v1,v2⟩:=bA cd;have v2:=bf v2;simp only [E.den]at v2;obtain⟨_,fi⟩:=gf hr db v1;have hle:=Env.kS ρ ⟨x.val ρ,kE⟩;have fA:=Env.Le.e9 h.lens hle;have eV:st.a_.le {st.a_ with v:=st.a_.v+1}:=by constructor<;>simp
    have hSr:=db r.j (by simp) _ hj;refine⟨h.lens.iQ _,de eV h.mj,?_,gg eV h.o9,fun b hb=>(BE.i_ fA (auo.1 h.o9 b hb)).1 (h.kn b hb),?_,h.same,dU eV h.ng⟩
    ·refine auo.2 fun q hq=>?_
     rcases au1 hq with hq | rfl
     ·exact Ck.bg eV (auo.1 h.gP q hq)
     ·simp only [Ck.sc,ai,auF];exact⟨⟨Nat.lt_succ_self _,E.bg eV kZ⟩,ku eV yY⟩
    ·simp only [List.map_set];have Kl:st.hp.map (Ck.den (ρ.iQ ⟨x.val ρ,kE⟩))=st.hp.map (Ck.den ρ):=(lF fA h.gP).symm;rw [Kl];have As:(Ck.cC md st.a_.v r.t r.s r.p.len aA).den (ρ.iQ ⟨x.val ρ,kE⟩)=aB md r.t r.s (x.val ρ) (r.p.len.den ρ 0).toNat (aG ρ (r.p.len.den ρ 0).toNat aA):=by
      simp only [Ck.den,eR ρ _ h.lens.v];rw [←E.bU fA kZ,←vA fA yY]
     rw [As];obtain⟨e1,e2⟩:=kQ fi.lo fu;have h2:=fi.hi;have h1:=fi.lo;have gU:((aG ρ (r.n.den ρ 0).toNat r.aA).drop ((r.p.lo.den ρ 0).toNat*r.s)).take ((r.p.len.den ρ 0).toNat*r.s)=aG ρ (r.p.len.den ρ 0).toNat aA:=by
      rw [cT,hw,wu (dQ ρ r.aA) _ _ _ (by omega),cT];exact dr fun i _=>(e2 i).symm
     refine bz.weaken hS r.j _ _ (by rw [List.getElem?_map,hj];rfl) (fun wF=>Kd wF) (fun k=>(x.val ρ).ownBlock=some k∧(md=true∨0<(r.p.len.den ρ 0).toNat)) (fun k hk=>?_) ⟨?_,fun k=>Iff.rfl⟩
     ·rw [OT fi]at hk;refine(hSr.2 k).2 ⟨hk.1,hk.2.imp (fun h=>Kd h) fun h=>?_⟩;omega
     ·cases md with
      | true=>
       simp only [if_true];have du:=hSr.1;rw [Kd rfl]at du;simp only [if_true]at du;have:=(yE fi v2 du).1;rw [gU]at this;exact this
      | false=>
       simp only [Bool.false_eq_true,if_false];have:=OS fi (xg hSr).1;rw [gU]at this;refine⟨?_,this⟩;rw [eh,e1,←hw]
   ·cases hg
  ·cases hg
 ·cases hg
theorem Tx{L:Nat→LC}: ∀{vcs:List BE} {f:F} {ρ:Env},VC P al (vcF vcs f) ρ L→(∀b∈vcs,b.prop ρ)∧VC P al f ρ L
 | [],f,ρ,h=>⟨by simp,h⟩
 | b::r,f,ρ,h=>by
  obtain⟨h1,h2⟩:=h;obtain⟨h3,h4⟩:=Tx (h2 h1);exact⟨fun c hc=>(List.mem_cons.1 hc).elim (fun e=>e▸h1) (h3 c),h4⟩
theorem BW(hp:List Ck)(i j:Nat): ∃σ:Nat→Nat,(∀a b,σ a=σ b→a=b)∧(∀k,k<hp.length→σ k<hp.length)∧(∀k,hp.length≤k→σ k=k)∧∀k,(swapAt hp i j)[k]? =hp[σ k]? :=by
 unfold swapAt;split
 ·rename_i d c hi hj;have li:=(aup.1 hi).1;have lj:=(aup.1 hj).1;refine⟨fun k=>if k=i then j else if k=j then i else k,fun a b=>?_,fun k hk=>?_,fun k hk=>?_,fun k=>?_⟩
  ·simp only;split<;>split<;>(try split)<;>(try split)<;>omega
  ·simp only;split
   ·exact lj
   ·split
    ·exact li
    ·exact hk
  ·simp only;rw [if_neg (by omega),if_neg (by omega)]
  ·simp only [List.getElem?_set,List.length_set];by_cases h1:k=i
   ·subst h1;by_cases h2:j=k
    ·subst h2;simp [li];exact(aup.1 hi).2.symm
    ·rw [if_neg h2,if_pos rfl,if_pos rfl,if_pos li,hj]
   ·by_cases h2:k=j
    ·subst h2;rw [if_pos rfl,if_pos lj,if_neg h1,if_pos rfl,hi]
    ·rw [if_neg (fun e=>h2 e.symm),if_neg (fun e=>h1 e.symm),if_neg h1,if_neg h2]
 ·exact⟨fun k=>k,fun _ _ h=>h,fun _ h=>h,fun _ _=>rfl,fun _=>rfl⟩
theorem BX(hp:List Ck)(i j:Nat):(swapAt hp i j).length=hp.length:=by
 unfold swapAt;split
 ·simp
 ·rfl
theorem Ty{hp:List Ck}{i j:Nat}{p:Ck→Bool}(h:hp.all p=true):(swapAt hp i j).all p=true:=by
 obtain⟨σ,_,_,_,hg⟩:=BW hp i j;rw [auo]at h ⊢;intro x hx;obtain⟨k,hk⟩:=List.getElem?_of_mem hx;rw [hg]at hk;exact h x (auM hk)
theorem Tz{hp:List Ck}{i j:Nat}{ρ:Env}{Fs:List HP}{w:World}(h:bz (hp.map (Ck.den ρ)++Fs) w):bz ((swapAt hp i j).map (Ck.den ρ)++Fs) w:=by
 obtain⟨σ,h1,h2,h3,h4⟩:=BW hp i j;refine h.vE (fun k=>some (σ k)) (fun k x hx=> .inr ⟨σ k,rfl,?_⟩) (fun a b c ha hb _ _=>h1 a b ?_)
 ·by_cases hk:k<hp.length
  ·rw [auu (by rw [auJ,BX];exact hk),List.getElem?_map,h4]at hx;rw [auu (by rw [auJ];exact h2 k hk),List.getElem?_map];exact hx
  ·rw [auv (by rw [auJ,BX];omega),auJ,BX]at hx;rw [h3 k (by omega),auv (by rw [auJ];omega),auJ];exact hx
 ·rw [auq]at ha hb;rw [ha,hb]
theorem H5{T:List TI}{st d_:St}{x:tL}{wr:BH}{L:Nat→LC}{f:F}(hg:eI T st x=some (d_,wr))(h:HW Fs w0 st ρ w)(ha:HA st.fr st.nt ρ a)(hv:VC P al (iq [wr] f) ρ L):
  ∃bJ,Env.Le ρ bJ∧HW Fs w0 d_ bJ w∧HA d_.fr d_.nt bJ a∧d_.fn=st.fn∧VC P al f bJ L:=by
 cases wr with
 | nil=>
  obtain⟨g1,g2,g3,g4⟩:=OR hg h ha;exact⟨_,Env.kS _ _,g1,g2,g4,hv⟩
 | same=>
  simp only [iq]at hv;cases x with
  | slot s t=>
   simp only [eI]at hg;split at hg
   ·rw [aus]at hg;obtain⟨_,_,he⟩:=hg;cases he
   ·cases hg
  | cell i j t=>
   simp only [eI]at hg;split at hg
   ·split at hg
    ·rw [aus]at hg;obtain⟨_,_,he⟩:=hg;cases he
    ·cases hg
   ·cases hg
  | cut s md=>
   simp only [eI]at hg;split at hg
   ·rw [aus]at hg;obtain⟨y,hy,he⟩:=hg;obtain⟨_,_,hw,_⟩:=kB (wr:=y.2) (d_:=y.1) hy h;simp only [au2]at he;rw [he.2]at hw;cases hw
   ·cases hg
  | own s t=>
   simp only [eI]at hg;split at hg
   ·rw [aus]at hg;obtain⟨y,hy,he⟩:=hg;obtain⟨_,_,hw,_⟩:=oH (wr:=y.2) (d_:=y.1) hy h;simp only [au2]at he;rw [he.2]at hw;cases hw
   ·cases hg
  | qv i j md=>
   simp only [eI]at hg;split at hg
   ·split at hg
    ·split at hg
     ·rename_i s1 wr1 hy;obtain⟨_,_,hw,_⟩:=kB hy h;split at hg
      ·split at hg
       ·simp only [auq,au2]at hg;rw [hg.2]at hw;cases hw
       ·cases hg
      ·cases hg
     ·cases hg
    ·cases hg
   ·cases hg
  | marks=>simp [eI]at hg
  | mark=>
   simp only [eI]at hg;split at hg
   ·split at hg
    ·simp at hg
    ·cases hg
   ·simp only [auq,au2,and_true]at hg;subst hg;exact⟨ρ,Env.Le.refl _,h,ha,rfl,hv⟩
   ·cases hg
  | swap s i=>
   simp only [eI]at hg;split at hg
   ·simp only [auq,au2,and_true]at hg;subst hg;exact⟨ρ,Env.Le.refl _,⟨h.lens,h.mj,Ty h.gP,h.o9,h.kn,Tz h.own,h.same,h.ng⟩,ha,rfl,hv⟩
   ·cases hg
 | tS=>
  simp only [iq,VC]at hv;cases x with
  | slot s t=>
   simp only [eI]at hg;split at hg
   ·rw [aus]at hg;obtain⟨_,_,he⟩:=hg;cases he
   ·cases hg
  | cell i j t=>
   simp only [eI]at hg;split at hg
   ·split at hg
    ·rw [aus]at hg;obtain⟨_,_,he⟩:=hg;cases he
    ·cases hg
   ·cases hg
  | cut s md=>
   simp only [eI]at hg;split at hg
   ·rw [aus]at hg;obtain⟨y,hy,he⟩:=hg;obtain⟨_,_,hw,_⟩:=kB (wr:=y.2) (d_:=y.1) hy h;simp only [au2]at he;rw [he.2]at hw;cases hw
   ·cases hg
  | own s t=>
   simp only [eI]at hg;split at hg
   ·rw [aus]at hg;obtain⟨y,hy,he⟩:=hg;obtain⟨_,_,hw,_⟩:=oH (wr:=y.2) (d_:=y.1) hy h;simp only [au2]at he;rw [he.2]at hw;cases hw
   ·cases hg
  | qv i j md=>
   simp only [eI]at hg;split at hg
   ·split at hg
    ·split at hg
     ·rename_i s1 wr1 hy;obtain⟨_,_,hw,_⟩:=kB hy h;split at hg
      ·split at hg
       ·simp only [auq,au2]at hg;rw [hg.2]at hw;cases hw
       ·cases hg
      ·cases hg
     ·cases hg
    ·cases hg
   ·cases hg
  | marks=>
   simp only [eI,auq,au2,and_true]at hg;subst hg;have hle:=Env.Fb ρ (pU []);have fA:=Env.Le.e9 h.lens hle;have eV:st.a_.le {st.a_ with b:=st.a_.b+1}:=by constructor<;>simp
   have hb:=jo ρ (pU []) h.lens.b;refine⟨_,hle,⟨h.lens.nV _,de eV h.mj,?_,gg eV h.o9,fun b hb=>(BE.i_ fA (auo.1 h.o9 b hb)).1 (h.kn b hb),?_,h.same,?_⟩,?_,rfl,hv (pU [])⟩
   ·rw [List.all_append,ai];exact⟨jN eV h.gP,by simp [Ck.sc]⟩
   ·rw [List.map_append];refine bz.add (h.BV hle) _ (fun _=>False) (Nat.le_refl _) (fun _ _=>rfl) ?_ (fun _ hk=>hk.elim);simp only [Ck.den,hb,pV];exact⟨by simp,by simp,by simp⟩
   ·rw [List.all_cons,ai];exact⟨by simp [MK.sc],dU eV h.ng⟩
   ·have w9:=ha.more h.mj h.ng fA;refine⟨?_,w9.size,w9.aX⟩;rw [w9.defers];simp only [marks,MK.blocks,List.flatMap_cons,hb,pV,List.nil_append]
  | mark=>
   simp only [eI]at hg;split at hg;rotate_left
   ·simp at hg
   ·cases hg
   rename_i b c ds O5;split at hg;rotate_left
   ·cases hg
   rename_i i j hi hj;simp only [auq,au2,and_true]at hg;subst hg;have cD:st.hp[i]? =some (.MO b):=by
    rw [List.findIdx?_eq_some_iff_getElem]at hi;obtain⟨cF,hd,_⟩:=hi;cases hc:st.hp[i]with
    | MO b'=>
     rw [hc]at hd;simp only [Ck.Du,beq_iff_eq]at hd;subst hd;rw [auU cF,hc]
    | _=>rw [hc]at hd;simp [Ck.Du]at hd
   have lq:st.hp[j]? =some (.vB c):=by
    rw [List.findIdx?_eq_some_iff_getElem]at hj;obtain⟨cF,hd,_⟩:=hj;cases hc:st.hp[j]with
    | vB b'=>
     rw [hc]at hd;simp only [Ck.xI,beq_iff_eq]at hd;subst hd;rw [auU cF,hc]
    | _=>rw [hc]at hd;simp [Ck.xI]at hd
   have Oe:=h.ng;rw [O5]at Oe;simp only [List.all_cons,ai,MK.sc,auF]at Oe;generalize hl:ρ.bv.getD b 0::rA (ρ.bv.getD c 0)=l;have hle:=Env.Fb ρ (pU l);have fA:=Env.Le.e9 h.lens hle;have eV:st.a_.le {st.a_ with b:=st.a_.b+1}:=by constructor<;>simp
   have hb:=jo ρ (pU l) h.lens.b;refine⟨_,hle,⟨h.lens.nV _,de eV h.mj,?_,gg eV h.o9,fun b hb=>(BE.i_ fA (auo.1 h.o9 b hb)).1 (h.kn b hb),?_,h.same,?_⟩,?_,rfl,hv (pU l)⟩
   ·refine auo.2 fun q hq=>?_
    rcases au1 hq with hq | rfl
    ·rcases au1 hq with hq | rfl
     ·exact Ck.bg eV (auo.1 h.gP q hq)
     ·rfl
    ·simp [Ck.sc]
   ·have ho:=h.BV hle;rw [List.map_set,List.map_set];have e1:(st.hp.map (Ck.den (ρ.nV (pU l))))[i]? =some (zQ (ρ.bv.getD b 0)):=by
     rw [List.getElem?_map,cD,Option.map_some,Ck.den,←fA.b b Oe.1]
    have e2:(st.hp.map (Ck.den (ρ.nV (pU l))))[j]? =some (mv (rA (ρ.bv.getD c 0))):=by
     rw [List.getElem?_map,lq,Option.map_some,Ck.den,←fA.b c Oe.2.1]
    have:=ho.H4 e1 e2 (by rintro rfl;rw [cD]at lq;cases lq);rw [hl]at this;rw [show(Ck.vB st.a_.b).den (ρ.nV (pU l))=mv l by simp only [Ck.den,hb,pV]];exact this
   ·rw [List.all_cons,ai];exact⟨by simp [MK.sc],dU eV Oe.2.2⟩
   ·have w9:=ha.more h.mj h.ng fA;refine⟨?_,w9.size,w9.aX⟩;rw [ha.defers,O5];rw [show marks ρ (.one b:: .many c::ds)=l.map (fun b=>{target:= .collected b,args:= #[]})++marks ρ ds by simp [marks,MK.blocks,←hl],vL fA Oe.2.2];simp only [marks,MK.blocks,List.flatMap_cons,hb,pV,List.map_append]
  | swap s i=>
   simp only [eI]at hg;split at hg
   ·simp at hg
   ·cases hg
 | cut vcs=>
  simp only [iq]at hv;obtain⟨cd,hv⟩:=Tx hv;simp only [VC]at hv;cases x with
  | slot s t=>
   simp only [eI]at hg;split at hg
   ·rw [aus]at hg;obtain⟨_,_,he⟩:=hg;cases he
   ·cases hg
  | cell i j t=>
   simp only [eI]at hg;split at hg
   ·split at hg
    ·rw [aus]at hg;obtain⟨_,_,he⟩:=hg;cases he
    ·cases hg
   ·cases hg
  | cut s md=>
   simp only [eI]at hg;split at hg
   ·rename_i x hl;rw [aus]at hg;obtain⟨⟨s1,wr1⟩,hy,he⟩:=hg;cases he;obtain⟨afQ,kE,wF,hHW,e1,e2,e3,e4,_⟩:=kB hy h;cases wF;have h1:=hHW cd;have hle:=Env.kS ρ ⟨x.val ρ,kE⟩;have fA:=Env.Le.e9 h.lens hle;have w9:=ha.more h.mj h.ng fA;have ye:(SV.vv st.a_.v).sc s1.a_=true:=by rw [e4];simp [SV.sc]
    refine⟨_,hle,h1.put ye,⟨by rw [(fb _ _ _).2.2.2.1,e2];exact w9.defers,by rw [(fb _ _ _).2.2.2.1,e2];exact ha.size,fun q v hq=>?_⟩,by rw [(fb _ _ _).2.2.2.2,e3],hv _⟩;simp only [St.put]at hq;unfold look at hq;split at hq
    ·rename_i Mc;rw [beq_iff_eq]at Mc;subst Mc;cases hq;rw [ha.aX _ _ hl];simp only [SV.val,eR ρ _ h.lens.v]
    ·rename_i Mc;rw [oF s _ q (fun e=>Mc (by simp [e])),e1]at hq;exact w9.aX q v hq
   ·cases hg
  | own s t=>
   simp only [eI]at hg;split at hg
   ·rename_i x hl;rw [aus]at hg;obtain⟨⟨s1,wr1⟩,hy,he⟩:=hg;cases he;obtain⟨afQ,kE,wF,h1,e1,e2,e3,e4⟩:=oH hy h;cases wF;have hle:=Env.kS ρ ⟨x.val ρ,kE⟩;have fA:=Env.Le.e9 h.lens hle;have w9:=ha.more h.mj h.ng fA;have ye:(SV.vv st.a_.v).sc s1.a_=true:=by rw [e4];simp [SV.sc]
    refine⟨_,hle,h1.put ye,⟨by rw [(fb _ _ _).2.2.2.1,e2];exact w9.defers,by rw [(fb _ _ _).2.2.2.1,e2];exact ha.size,fun q v hq=>?_⟩,by rw [(fb _ _ _).2.2.2.2,e3],hv _⟩;simp only [St.put]at hq;unfold look at hq;split at hq
    ·rename_i Mc;rw [beq_iff_eq]at Mc;subst Mc;cases hq;rw [ha.aX _ _ hl];simp only [SV.val,eR ρ _ h.lens.v]
    ·rename_i Mc;rw [oF s _ q (fun e=>Mc (by simp [e])),e1]at hq;exact w9.aX q v hq
   ·cases hg
  | qv i j md=>
   simp only [eI]at hg;split at hg
   ·rename_i b wr cs hi;split at hg
    ·rename_i x hj;split at hg
     ·rename_i s1 wr1 hy;obtain⟨afQ,kE,wF,hHW,e1,e2,e3,e4,jj,md0,v0,t0,s0,n0,afx,ck,e5,e6⟩:=kB hy h;split at hg
      ·rename_i b' w' ra cD;split at hg
       ·cases hg;cases wF;have h1:=hHW cd;have hle:=Env.kS ρ ⟨x.val ρ,kE⟩;have fA:=Env.Le.e9 h.lens hle;have w9:=ha.more h.mj h.ng fA;have ye:(SV.vv st.a_.v).sc s1.a_=true:=by rw [e4];simp [SV.sc]
        have fy:jj≠i:=by
         intro e;subst e;rw [hi]at e5;cases e5
        have Ln:s1.hp[i]? =some (.row b wr cs):=by
         rw [e6,auV fy];exact hi
        have Km:=auo.1 h1.gP _ (auM Ln);simp only [Ck.sc,ai]at Km;have IC:x.sc st.a_=true:=by
         have:=auo.1 h.gP _ (auM hi);simp only [Ck.sc,ai]at this;have key: ∀{l:List SV} {k:Nat} {y:SV},SV.qM st.a_ l=true→l[k]? =some y→y.sc st.a_=true:=by
          intro l
          induction l with
          | nil=>intro k y _ hy;simp at hy
          | cons z r ih=>
           intro k y hl hy;simp only [SV.qM,ai]at hl;cases k with
           | zero=>simp at hy;subst hy;exact hl.1
           | succ k=>exact ih hl.2 (by simpa using hy)
         exact key this.2 hj
        have P3:x.plain=true:=by
         unfold BI at hy;split at hy
         ·rename_i r hr;cases x<;>first | rfl | simp [ic]at hr
         ·cases hy
        have As:(Ck.row b wr (cs.set j (.vv st.a_.v))).den (ρ.iQ ⟨x.val ρ,kE⟩)=(Ck.row b wr cs).den (ρ.iQ ⟨x.val ρ,kE⟩):=by
         simp only [Ck.den];rw [uM hj];rw [jg _ P3,←(SV.wY fA IC).1];simp only [SV.cells,eR ρ _ h.lens.v]
        have Kl:(s1.hp.set i (.row b wr (cs.set j (.vv st.a_.v)))).map (Ck.den (ρ.iQ ⟨x.val ρ,kE⟩))=s1.hp.map (Ck.den (ρ.iQ ⟨x.val ρ,kE⟩)):=by
         rw [List.map_set,As];apply List.ext_getElem?;intro q;rw [List.getElem?_set];split
         ·rename_i hq;subst hq;split
          ·rw [List.getElem?_map,Ln];rfl
          ·rename_i cF;rw [au0 (by omega)]
         ·rfl
        refine⟨_,hle,⟨h1.lens,h1.mj,?_,h1.o9,h1.kn,by rw [Kl];exact h1.own,h1.same,h1.ng⟩,⟨by rw [e2];exact w9.defers,by rw [e2];exact ha.size,by rw [e1];exact w9.aX⟩,e3,hv _⟩;refine auo.2 fun q hq=>?_
        rcases au1 hq with hq | rfl
        ·exact auo.1 h1.gP q hq
        ·simp only [Ck.sc,ai];exact⟨Km.1,Fc Km.2 ye⟩
       ·cases hg
      ·cases hg
     ·cases hg
    ·cases hg
   ·cases hg
  | marks=>simp [eI]at hg
  | mark=>
   simp only [eI]at hg;split at hg
   ·split at hg
    ·simp at hg
    ·cases hg
   ·simp at hg
   ·cases hg
  | swap s i=>
   simp only [eI]at hg;split at hg
   ·simp at hg
   ·cases hg
theorem Ff(x:BH)(r:List BH)(f:F):iq (x::r) f=iq [x] (iq r f):=by cases x<;>rfl
theorem kT{T:List TI}{L:Nat→LC}{f:F}: ∀{xs:List tL} {st d_:St} {n:List BH} {ρ:Env},uK T st xs=some (d_,n)→HW Fs w0 st ρ w→HA st.fr st.nt ρ a→VC P al (iq n f) ρ L→
  ∃bJ,Env.Le ρ bJ∧HW Fs w0 d_ bJ w∧HA d_.fr d_.nt bJ a∧d_.fn=st.fn∧VC P al f bJ L
 | [],st,d_,n,ρ,h,hw,ha,hv=>by
  simp only [uK,auq,au2]at h;obtain⟨rfl,rfl⟩:=h;exact⟨ρ,Env.Le.refl _,hw,ha,rfl,hv⟩
 | x::xs,st,d_,n,ρ,h,hw,ha,hv=>by
  unfold uK at h;split at h
  ·rename_i s1 h1;split at h
   ·rename_i s2 k h2;simp only [auq,au2]at h;obtain⟨rfl,rfl⟩:=h;rw [Ff]at hv;obtain⟨sP,g0,g1,g2,g4,g5⟩:=H5 h1 hw ha hv;obtain⟨bJ,q1,q2,q3,q5,q6⟩:=kT h2 g1 g2 g5;exact⟨bJ,g0.trans q1,q2,q3,q5.trans g4,q6⟩
   ·cases h
  ·cases h
end
end Go.RX
