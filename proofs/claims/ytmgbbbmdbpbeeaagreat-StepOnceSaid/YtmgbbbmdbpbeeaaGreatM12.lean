/- Executor. -/
import Derived.Test.YtmgbbbmdbpbeeaaGreatM11
open Bool renaming and_eq_true → ai
open Int renaming toNat → ag
open List renaming all_eq_true → aiM, getElem?_append_left → aiR, getElem?_append_right → aiW, getElem?_eq_getElem → ajk, getElem?_eq_none → ajz, getElem?_eq_some_iff → aiN, getElem?_set_ne → ajj, map_congr_left → ajq, mem_append → ajt, mem_cons → ai0, mem_filter → aja, mem_of_getElem? → ajn, mem_or_eq_of_mem_set → ajf
open Nat renaming blt_eq → ai3
open Option renaming getD_some → ajh, map_eq_some_iff → aiO, map_some → ajI
open Option.some renaming injEq → aiP
open Prod.mk renaming injEq → ajA
namespace Go.RX
section
variable {P:Program} {C:Ctx} {ao:Value→List HP→Prop} {Fs:List HP} {w0:World} {ρ:Env} {a:Act} {w:World}
theorem Env.Co(ρ:Env)(b:Nat):Env.Le ρ (ρ.mj b):=by rw [Env.QP];exact Env.gg _ _
theorem Env.jv(ρ:Env)(v:V1):Env.Le ρ (ρ.gf v):=by rw [Env.QQ];exact Env.gg _ _
theorem fq.mj{c:cz}(h:fq ρ c)(b:Nat):fq (ρ.mj b) {c with b:=c.b+1}:=
 ⟨by simp [Env.mj,h.b],h.v,h.i,h.a,h.bo,h.p,h.r⟩
theorem fq.gf{c:cz}(h:fq ρ c)(v:V1):fq (ρ.gf v) {c with v:=c.v+1}:=
 ⟨h.b,by simp [Env.gf,h.v],h.i,h.a,h.bo,h.p,h.r⟩
theorem dE(ρ:Env)(v:V1){n:Nat}(h:ρ.vv.length=n):(ρ.gf v).vv.getD n V1.nil=v:=by
 subst h;simp [Env.gf]
theorem iL(ρ:Env)(b:Nat){n:Nat}(h:ρ.bv.length=n):(ρ.mj b).bv.getD n 0=b:=by
 subst h;simp [Env.mj]
theorem r_{ρ:Env}: ∀{cs:List SV} {j:Nat} {x y:SV},cs[j]? =some x→SV.cells ρ y=SV.cells ρ x→SV.aA ρ (cs.set j y)=SV.aA ρ cs
 | [],j,x,y,h,_=>by simp at h
 | c::cs,0,x,y,h,e=>by
  simp only [List.getElem?_cons_zero,aiP]at h;subst h;simp only [List.set_cons_zero,SV.aA,e]
 | c::cs,j+1,x,y,h,e=>by
  simp only [List.getElem?_cons_succ]at h;simp only [List.set_cons_succ,SV.aA,r_ h e]
theorem Cp{c:cz}: ∀{cs:List SV} {j:Nat} {y:SV},SV.o6 c cs=true→y.sc c=true→SV.o6 c (cs.set j y)=true
 | [],j,y,h,_=>by simpa using h
 | x::cs,0,y,h,e=>by
  simp only [SV.o6,ai]at h;simp only [List.set_cons_zero,SV.o6,ai];exact⟨e,h.2⟩
 | x::cs,j+1,y,h,e=>by
  simp only [SV.o6,ai]at h;simp only [List.set_cons_succ,SV.o6,ai];exact⟨h.1,Cp h.2 e⟩
theorem HW.yJ{st:St}{bF:Env}(h:HW Fs w0 st ρ w)(hle:Env.Le ρ bF):bz (st.hp.map (Ck.den bF)++Fs) w:=by
 rw [←jZ (Env.Le.dK h.lens hle) h.fU];exact h.own
theorem vN{T:List TI}{st cY:St}{t:Nat}(hg:IM T st t=some cY)(h:HW Fs w0 st ρ w):
  HW Fs w0 cY (ρ.gf ⟨.slice none 0 0,rfl⟩) w∧cY.fr=st.fr∧cY.nt=st.nt∧cY.fn=st.fn∧cY.aV={st.aV with v:=st.aV.v+1}∧∃ck,cY.hp=st.hp++[ck]:=by
 unfold IM at hg;split at hg
 ·rename_i ti aD cK ep;split at hg
  ·rename_i iT;cases hg;have hle:=Env.jv ρ ⟨.slice none 0 0,rfl⟩;have dz:st.aV.le {st.aV with v:=st.aV.v+1}:=by constructor<;>simp
   refine⟨⟨h.lens.gf _,cr dz h.kI,?_,eN dz h.nh,fun b hb=>?_,?_,h.same,cV dz h.lC⟩,rfl,rfl,rfl,rfl,_,rfl⟩
   ·rw [List.all_append,ai];refine⟨iA dz h.fU,?_⟩;simp only [List.all_cons,List.all_nil,Ck.sc,E.sc,Bool.and_true,ai,ai3];exact⟨Nat.lt_succ_self _,iV dz iT⟩
   ·exact(BE.gn (Env.Le.dK h.lens hle) (aiM.1 h.nh b hb)).1 (h.kn b hb)
   ·rw [List.map_append];refine bz.add (h.yJ hle) _ (fun _=>False) (Nat.le_refl _) (fun _ _=>rfl) ?_ (fun _ hk=>hk.elim);simp only [Ck.den,dE ρ _ h.lens.v];refine⟨?_,fun k=>by simp [Value.ownBlock]⟩;simp only [if_true];exact jR w t ti.size
  ·cases hg
 ·cases hg
theorem bz.weaken{a b:List HP}{w:World}{S:Nat→Nat→Prop}(h:Sep (a++b) S w)(i:Nat)(h0 h':HP)(hi:a[i]? =some h0)(hw:h'.wr=true→h0.wr=true)
  (S':Nat→Prop) (dB: ∀k,S' k→S i k) (hp:h'.p w S'):bz (a.set i h'++b) w:=by
 have bX:i<a.length:=(aiN.1 hi).1;have mv:(a++b)[i]? =some h0:=by rw [aiR bX];exact hi
 have hold: ∀(j:Nat) x,(a.set i h'++b)[j]? =some x→∃y,(a++b)[j]? =some y∧(x.wr=true→y.wr=true)∧(j≠i→x=y)∧(j=i→x=h'):=by
  intro j x hx;by_cases hj:j=i
  ·subst hj;rw [aiR (by simpa using bX),List.getElem?_set_self bX]at hx;cases hx;exact⟨h0,mv,hw,fun h=>absurd rfl h,fun _=>rfl⟩
  ·refine⟨x,?_,id,fun _=>rfl,fun h=>absurd h hj⟩;by_cases KR:j<a.length
   ·rw [aiR (by simpa using KR),ajj (Ne.symm hj)]at hx;rw [aiR KR];exact hx
   ·rw [aiW (by simp;omega),List.length_set]at hx;rw [aiW (by omega)];exact hx
 have Nl: ∀j k,(if j=i then S' k else S j k)→S j k:=by
  intro j k hk;split at hk
  ·rename_i hj;subst hj;exact dB k hk
  ·exact hk
 refine⟨fun j k=>if j=i then S' k else S j k,⟨fun j x hx=>?_,fun j k x y dI hx hy ud q h1 h2=>?_⟩⟩
 ·obtain⟨y,hy,_,h1,h2⟩:=hold j x hx;obtain⟨hpy,hb⟩:=h.at_ j y hy;refine⟨?_,fun k hk=>hb k (Nl j k hk)⟩;by_cases hj:j=i
  ·subst hj;rw [h2 rfl];simp only [if_true];exact hp
  ·rw [h1 hj];simp only [hj,if_false];exact hpy
 ·obtain⟨x',Tt,wx,_,_⟩:=hold j x hx;obtain⟨y',UK,wy,_,_⟩:=hold k y hy;exact h.apart j k x' y' dI Tt UK (ud.imp wx wy) q (Nl j q h1) (Nl k q h2)
theorem mK{st cY:St}{x:SV}{ty:Nat}{wr:xM}(hg:MR st x ty=some (cY,wr))(h:HW Fs w0 st ρ w):
  ∃vcs iz,wr= .cut vcs∧HW Fs w0 cY (ρ.gf ⟨x.val ρ,iz⟩) w∧cY.fr=st.fr∧cY.nt=st.nt∧cY.fn=st.fn∧cY.aV={st.aV with v:=st.aV.v+1}:=by
 unfold MR at hg;split at hg
 case h_2=>cases hg
 rename_i b ix s n m;split at hg
 case h_2=>cases hg
 rename_i j b' cs q QF hix hn;split at hg
 case h_2=>cases hg
 rename_i ki kl a KM;split at hg
 case isFalse=>cases hg
 rename_i hc;obtain⟨rfl,rfl,hq,M6,Z_,hsa⟩:=hc;cases hg;have XJ:n.den ρ 0=(q:Int):=cn (ρ:=ρ) hn;have XK:ix.den ρ 0=((0:Nat):Int):=cn (ρ:=ρ) hix;have G5:(SV.sl b ix 1 n n).val ρ= .slice (some ⟨ρ.bv.getD b 0,0,none⟩) q q:=by simp [SV.val,XJ,XK]
 obtain⟨hj,dA⟩:=cM QF;simp only [Ck.ra,beq_iff_eq]at dA;subst dA;obtain⟨S,hS⟩:=h.own;have cP:Reads st.hp ρ w S [j]:=by
  intro j _ ck hj;refine(hS.at_ j (ck.den ρ) ?_).1;rw [aiR (by simpa using (aiN.1 hj).1),List.getElem?_map,hj];rfl
 have XR:=cP j (by simp) _ hj;have fe:SV.aA ρ cs=aj ki q (a.den ρ):=by
  have QN:=gD (ρ:=ρ) KM;rw [M6,List.length_replicate,oc]at QN;exact QN
 have hlen:(SV.aA ρ cs).length=q:=by rw [fe,aF]
 have KE:(al (ρ.bv.getD b 0) true (SV.aA ρ cs)).p w (S j):=XR;have cI:=s8 (t:=ty) KE (by rw [hlen];unfold maxLen;omega);rw [hlen,fe]at cI;refine⟨[],by rw [G5];rfl,rfl,?_,rfl,rfl,rfl,rfl⟩;have iz:((SV.sl b ix 1 n n).val ρ).oneCell'=true:=by rw [G5];rfl
 have hle:=Env.jv ρ ⟨(SV.sl b ix 1 n n).val ρ,iz⟩;have eu:=Env.Le.dK h.lens hle;have dz:st.aV.le {st.aV with v:=st.aV.v+1}:=by constructor<;>simp
 refine⟨h.lens.gf _,cr dz h.kI,?_,eN dz h.nh,fun b hb=>(BE.gn eu (aiM.1 h.nh b hb)).1 (h.kn b hb),?_,h.same,cV dz h.lC⟩
 ·refine aiM.2 fun z hz=>?_
  rcases ajf hz with hz | rfl
  ·exact Ck.bq dz (aiM.1 h.fU z hz)
  ·simp only [Ck.sc,ai,ai3,List.all_cons,List.all_nil,bR.sc,CK.sc,E.sc,and_true];exact⟨Nat.lt_succ_self _,E.bq dz hsa⟩
 ·simp only [List.map_set];have Ha:st.hp.map (Ck.den (ρ.gf ⟨(SV.sl b ix 1 n n).val ρ,iz⟩))=st.hp.map (Ck.den ρ):=(jZ eu h.fU).symm;rw [Ha];have yK:(Ck.bK true st.aV.v ty 1 (.lit (q:Int)) [⟨.int ki,1,a⟩]).den (ρ.gf ⟨(SV.sl b ix 1 n n).val ρ,iz⟩)=aG true ty 1 (.slice (some ⟨ρ.bv.getD b 0,0,none⟩) q q) q (aj ki q (a.den ρ)):=by
   simp only [Ck.den,dE ρ _ h.lens.v];rw [dG,←E.bN eu hsa];have hqd: ∀r:Env,((E.lit (q:Int)).den r 0).toNat=q:=fun r=>by show ag (q:Int)=q;omega
   rw [hqd,G5]
  rw [yK];refine bz.weaken hS j _ _ (by rw [List.getElem?_map,hj];rfl) (fun _=>rfl) (fun k=>(Value.slice (some ⟨ρ.bv.getD b 0,0,none⟩) q q).ownBlock=some k∧(true=true∨0<q)) (fun k hk=>?_) ⟨?_,fun k=>Iff.rfl⟩
  ·refine(KE.1 k).2 ?_;have:=hk.1;simp only [Value.ownBlock,aiP]at this
   first | exact this.symm | exact this
  ·simp only [if_true];exact cI
theorem KS{T:List TI}{st cY:St}{x:rn}(hg:dy T st x=some (cY,.nil))(h:HW Fs w0 st ρ w)(ha:HA st.fr st.nt ρ a):
  HW Fs w0 cY (ρ.gf ⟨.slice none 0 0,rfl⟩) w∧HA cY.fr cY.nt (ρ.gf ⟨.slice none 0 0,rfl⟩) a∧cY.nt=st.nt∧cY.fn=st.fn:=by
 have hle:=Env.jv ρ ⟨.slice none 0 0,rfl⟩;have eu:=Env.Le.dK h.lens hle;have uO:=ha.more h.kI h.lC eu;cases x with
 | slot s t=>
  simp only [dy]at hg;split at hg
  ·rename_i hl;rw [aiO]at hg;obtain⟨s1,kx,QV⟩:=hg;cases QV;obtain⟨h1,e1,e2,e3,e4,ck,e5⟩:=vN kx h;have hv:(SV.vv st.aV.v).sc s1.aV=true:=by rw [e4];simp [SV.sc]
   refine⟨h1.put hv,⟨by rw [(dL _ _ _).2.2.2.1,e2];exact uO.defers,by rw [(dL _ _ _).2.2.2.1,e2];exact ha.size,fun q v hq=>?_⟩,by rw [(dL _ _ _).2.2.2.1,e2],by rw [(dL _ _ _).2.2.2.2,e3]⟩;simp only [St.put]at hq;unfold look at hq;split at hq
   ·rename_i I7;rw [beq_iff_eq]at I7;subst I7;cases hq;rw [ha.aO _ _ hl];simp only [SV.val,dE ρ _ h.lens.v]
   ·rename_i I7;rw [mI s _ q (fun e=>I7 (by simp [e])),e1]at hq;exact uO.aO q v hq
  ·cases hg
 | cell i j t=>
  simp only [dy]at hg;split at hg
  ·rename_i b wr cs hi;split at hg
   ·rename_i hj;rw [aiO]at hg;obtain⟨s1,kx,QV⟩:=hg;cases QV;obtain⟨h1,e1,e2,e3,e4,ck,e5⟩:=vN kx h;have hv:(SV.vv st.aV.v).sc s1.aV=true:=by rw [e4];simp [SV.sc]
    have mv:s1.hp[i]? =some (.row b wr cs):=by
     rw [e5,aiR (aiN.1 hi).1];exact hi
    have Hb:=aiM.1 h1.fU _ (ajn mv);simp only [Ck.sc,ai]at Hb;have yK:(Ck.row b wr (cs.set j (.vv st.aV.v))).den (ρ.gf ⟨.slice none 0 0,rfl⟩)=(Ck.row b wr cs).den (ρ.gf ⟨.slice none 0 0,rfl⟩):=by
     simp only [Ck.den];rw [r_ hj];simp only [SV.cells,dE ρ _ h.lens.v]
    have Ha:(s1.hp.set i (.row b wr (cs.set j (.vv st.aV.v)))).map (Ck.den (ρ.gf ⟨.slice none 0 0,rfl⟩))=s1.hp.map (Ck.den (ρ.gf ⟨.slice none 0 0,rfl⟩)):=by
     rw [List.map_set,yK];apply List.ext_getElem?;intro q;rw [List.getElem?_set];split
     ·rename_i hq;subst hq;split
      ·rw [List.getElem?_map,mv];rfl
      ·rename_i bX;rw [ajz (by omega)]
     ·rfl
    refine⟨⟨h1.lens,h1.kI,?_,h1.nh,h1.kn,by rw [Ha];exact h1.own,h1.same,h1.lC⟩,⟨by rw [e2];exact uO.defers,by rw [e2];exact ha.size,by rw [e1];exact uO.aO⟩,e2,e3⟩;refine aiM.2 fun q hq=>?_
    rcases ajf hq with hq | rfl
    ·exact aiM.1 h1.fU q hq
    ·simp only [Ck.sc,ai];exact⟨Hb.1,Cp Hb.2 hv⟩
   ·cases hg
  ·cases hg
 | cut s md=>
  simp only [dy]at hg;split at hg
  ·rw [aiO]at hg;obtain⟨y,hy,he⟩:=hg;exfalso;unfold xN at hy;split at hy
   ·split at hy
    ·split at hy
     ·cases hy;cases he
     ·cases hy
    ·cases hy
   ·cases hy
  ·cases hg
 | own s t=>
  simp only [dy]at hg;split at hg
  ·rw [aiO]at hg;obtain⟨y,hy,he⟩:=hg;exfalso;obtain⟨_,_,hw,_⟩:=mK (wr:=y.2) (cY:=y.1) hy h;simp only [ajA]at he;rw [he.2]at hw;cases hw
  ·cases hg
 | qw i j md=>
  simp only [dy]at hg;split at hg
  ·split at hg
   ·split at hg
    ·rename_i k_ WI hy;exfalso;have:WI≠ .nil:=by
      unfold xN at hy;split at hy
      ·split at hy
       ·split at hy
        ·cases hy;simp
        ·cases hy
       ·cases hy
      ·cases hy
     split at hg
     ·split at hg
      ·simp only [aiP,ajA]at hg;exact this hg.2
      ·cases hg
     ·cases hg
    ·cases hg
   ·cases hg
  ·cases hg
 | marks=>simp [dy]at hg
 | mark=>
  simp only [dy]at hg;split at hg
  ·split at hg
   ·simp at hg
   ·cases hg
  ·simp at hg
  ·cases hg
 | swap s i=>
  simp only [dy]at hg;split at hg
  ·simp at hg
  ·cases hg
theorem bz.Ef{a b:List HP}{w:World}{i j k:Nat}{l:List Nat}(h:bz (a++b) w)(hi:a[i]? =some (xH k))(hj:a[j]? =some (kM l))(pR:i≠j):
  bz ((a.set i HP.emp).set j (kM (k::l))++b) w:=by
 obtain⟨S,hS⟩:=h;have yL:i<a.length:=(aiN.1 hi).1;have WJ:j<a.length:=(aiN.1 hj).1;have yM:(a++b)[i]? =some (xH k):=by rw [aiR yL];exact hi
 have hj2:(a++b)[j]? =some (kM l):=by rw [aiR WJ];exact hj
 obtain⟨⟨p1,p2⟩,p3⟩:=hS.at_ i _ yM;obtain⟨⟨q1,q2,q3⟩,q4⟩:=hS.at_ j _ hj2;have DT:w.heap[k]? =some (.deferred (some [])):=p2;have hap: ∀x,S i x→¬S j x:=hS.apart i j _ _ pR yM hj2 (.inl rfl);have WA: ∀(m:Nat) x,((a.set i HP.emp).set j (kM (k::l))++b)[m]? =some x→(m=i∧x=HP.emp)∨(m=j∧x=kM (k::l))∨(m≠i∧m≠j∧(a++b)[m]? =some x):=by
  intro m x hx;by_cases hma:m<a.length
  ·rw [aiR (by simpa using hma)]at hx;by_cases hmj:m=j
   ·subst hmj;rw [List.getElem?_set_self (by simpa using hma)]at hx;cases hx;exact .inr (.inl ⟨rfl,rfl⟩)
   ·rw [ajj (Ne.symm hmj)]at hx;by_cases hmi:m=i
    ·subst hmi;rw [List.getElem?_set_self hma]at hx;cases hx;exact .inl ⟨rfl,rfl⟩
    ·rw [ajj (Ne.symm hmi)]at hx;exact .inr (.inr ⟨hmi,hmj,by rw [aiR hma];exact hx⟩)
  ·rw [aiW (by simp;omega)]at hx;simp only [List.length_set]at hx;exact .inr (.inr ⟨by omega,by omega,by rw [aiW (by omega)];exact hx⟩)
 refine⟨fun m x=>if m=i then False else if m=j then S i x∨S j x else S m x,⟨fun m x hx=>?_,fun m n x y D6 hx hy ud z h1 h2=>?_⟩⟩
 ·rcases WA m x hx with⟨rfl,rfl⟩ | ⟨rfl,rfl⟩ | ⟨h1,h2,h3⟩
  ·simp only [if_true];exact⟨fun _ h=>h,fun _ h=>h.elim⟩
  ·simp only [Ne.symm pR,if_false,if_true];refine⟨⟨fun x=>?_,?_,fun b hb=>?_⟩,fun x hx=>hx.elim (p3 x) (q4 x)⟩
   ·simp only [p1,q1,ai0]
   ·exact List.nodup_cons.2 ⟨fun hk=>hap k ((p1 k).2 rfl) ((q1 k).2 hk),q2⟩
   ·rcases ai0.1 hb with rfl | hb
    ·exact DT
    ·exact q3 b hb
  ·simp only [h1,h2,if_false];exact hS.at_ m x h3
 ·rcases WA m x hx with⟨rfl,rfl⟩ | ⟨rfl,rfl⟩ | ⟨h3,h4,h5⟩
  ·simp only [if_true]at h1
  ·simp only [Ne.symm pR,if_false,if_true]at h1;rcases WA n y hy with⟨rfl,rfl⟩ | ⟨rfl,rfl⟩ | ⟨h6,h7,h8⟩
   ·simp only [if_true]at h2
   ·exact D6 rfl
   ·simp only [h6,h7,if_false]at h2;exact h1.elim (fun h1=>hS.apart i n _ _ (Ne.symm h6) yM h8 (.inl rfl) z h1 h2) (fun h1=>hS.apart m n _ _ (Ne.symm h7) hj2 h8 (.inl rfl) z h1 h2)
  ·simp only [h3,h4,if_false]at h1;rcases WA n y hy with⟨rfl,rfl⟩ | ⟨rfl,rfl⟩ | ⟨h6,h7,h8⟩
   ·simp only [if_true]at h2
   ·simp only [Ne.symm pR,if_false,if_true]at h2;exact h2.elim (fun h2=>hS.apart m i _ _ h3 h5 yM (.inr rfl) z h1 h2) (fun h2=>hS.apart m n _ _ h4 h5 hj2 (.inr rfl) z h1 h2)
   ·simp only [h6,h7,if_false]at h2;exact hS.apart m n _ _ D6 h5 h8 ud z h1 h2
theorem KT{s:Nat}{v x:Value}{n:E}{p:Part}{cs:List Value}(h:lQ ρ s v x n p)(hv:World.views w v (n.den ρ 0).toNat cs):
  World.views w x (p.len.den ρ 0).toNat ((cs.drop ((p.lo.den ρ 0).toNat*s)).take ((p.len.den ρ 0).toNat*s)):=by
 obtain⟨h1,h2,h3,a,c,k,rfl,hc,rfl,hk⟩:=h;obtain⟨a',m,c',he,rfl,Qq,kN,hr⟩:=hv;cases he;have KF:(p.lo.den ρ 0).toNat+(p.len.den ρ 0).toNat≤((p.mx.map fun m=>m.den ρ 0).map ag).getD c∨(p.len.den ρ 0).toNat=0:=by
  cases hm:(p.mx.map fun m=>m.den ρ 0)with
  | none=>simp only [Option.map_none,Option.getD_none];omega
  | some m=>have:=h3 m hm;simp only [ajI,ajh];omega
 refine⟨_,_,_,rfl,rfl,by omega,?_,?_⟩
 ·intro hn;cases a with
  | none=>have:=kN rfl;omega
  | some a=>cases hn
 ·intro ad pr;rw [aiO]at pr;obtain⟨a0,rfl,rfl⟩:=pr;obtain⟨hs,kv⟩:=hr a0 rfl;refine⟨fun _=>KU _ _ (hs (by omega)),fun j u hu=>?_⟩;rw [List.getElem?_take]at hu;split at hu
  ·rename_i hj;have hN:(p.len.den ρ 0).toNat≠0:=by intro h;rw [h,Nat.zero_mul]at hj;omega
   rw [List.getElem?_drop]at hu;rw [hk (.inl (by omega)),dc];exact kv _ _ hu
  ·cases hu
theorem KV{s:Nat}{v x:Value}{n:E}{p:Part}(h:lQ ρ s v x n p):x.ownBlock=v.ownBlock:=by
 obtain⟨h1,h2,h3,a,c,k,rfl,hc,rfl,hk⟩:=h;cases a with
 | none=>rfl
 | some a=>
  simp only [ajI,Value.ownBlock,Addr.add];split<;>rfl
theorem iX{st cY:St}{x:SV}{md:Bool}{wr:xM}(hg:xN st x md=some (cY,wr))(h:HW Fs w0 st ρ w):
  ∃vcs iz,wr= .cut vcs∧((∀b∈vcs,b.prop ρ)→HW Fs w0 cY (ρ.gf ⟨x.val ρ,iz⟩) w)∧cY.fr=st.fr∧cY.nt=st.nt∧cY.fn=st.fn∧cY.aV={st.aV with v:=st.aV.v+1}∧
   ∃j md0 v0 t s n aD ck,st.hp[j]? =some (.bK md0 v0 t s n aD)∧cY.hp=st.hp.set j ck:=by
 unfold xN at hg;split at hg
 ·rename_i r hr;split at hg
  ·rename_i aD ep;split at hg
   ·rename_i hc;obtain⟨hw,G7,kx,vO⟩:=hc;cases hg;have iz:(x.val ρ).oneCell'=true:=by
     have nZ:=ρ.ok;cases x with
     | vv i=>exact nZ.vvD i
     | kg v cs s=>exact mQ _ _ _ _ (ρ.vv.getD v V1.nil).one
     | _=>simp [fB]at hr
    obtain⟨S,hS⟩:=h.own;have cP:Reads st.hp ρ w S [r.j]:=by
     intro j _ ck hj;refine(hS.at_ j (ck.den ρ) ?_).1;rw [aiR (by simpa using (aiN.1 hj).1),List.getElem?_map,hj];rfl
    have hj:st.hp[r.j]? =some (.bK r.md r.v r.t r.s r.n r.aD):=by
     unfold fB at hr;split at hr
     ·split at hr
      ·rename_i hf;cases hr;obtain⟨hj,dA⟩:=cN hf;simp only [Ck.mC,beq_iff_eq]at dA;subst dA;exact hj
      ·cases hr
     ·split at hr
      ·rename_i hf;split at hr
       ·rename_i hss;cases hr;obtain⟨hj,dA⟩:=cN hf;simp only [Ck.mC,beq_iff_eq]at dA;subst dA;exact hj
       ·cases hr
      ·cases hr
     ·cases hr
    refine⟨_,iz,rfl,fun bW=>?_,rfl,rfl,rfl,rfl,r.j,_,_,_,_,_,_,_,hj,rfl⟩;obtain⟨v1,v2⟩:=bE bW;have v2:=a_ v2;simp only [E.den]at v2;obtain⟨_,dB⟩:=eK hr cP v1;have hle:=Env.jv ρ ⟨x.val ρ,iz⟩;have eu:=Env.Le.dK h.lens hle;have dz:st.aV.le {st.aV with v:=st.aV.v+1}:=by constructor<;>simp
    have XR:=cP r.j (by simp) _ hj;refine⟨h.lens.gf _,cr dz h.kI,?_,eN dz h.nh,fun b hb=>(BE.gn eu (aiM.1 h.nh b hb)).1 (h.kn b hb),?_,h.same,cV dz h.lC⟩
    ·refine aiM.2 fun q hq=>?_
     rcases ajf hq with hq | rfl
     ·exact Ck.bq dz (aiM.1 h.fU q hq)
     ·simp only [Ck.sc,ai,ai3];exact⟨⟨Nat.lt_succ_self _,E.bq dz kx⟩,iV dz vO⟩
    ·simp only [List.map_set];have Ha:st.hp.map (Ck.den (ρ.gf ⟨x.val ρ,iz⟩))=st.hp.map (Ck.den ρ):=(jZ eu h.fU).symm;rw [Ha];have yK:(Ck.bK md st.aV.v r.t r.s r.p.len aD).den (ρ.gf ⟨x.val ρ,iz⟩)=aG md r.t r.s (x.val ρ) (r.p.len.den ρ 0).toNat (aK ρ (r.p.len.den ρ 0).toNat aD):=by
      simp only [Ck.den,dE ρ _ h.lens.v];rw [←E.bN eu kx,←tb eu vO]
     rw [yK];obtain⟨e1,e2⟩:=js dB.lo ep;have h2:=dB.hi;have h1:=dB.lo;have fe:((aK ρ (r.n.den ρ 0).toNat r.aD).drop ((r.p.lo.den ρ 0).toNat*r.s)).take ((r.p.len.den ρ 0).toNat*r.s)=aK ρ (r.p.len.den ρ 0).toNat aD:=by
      rw [cj,hw,sX (c9 ρ r.aD) _ _ _ (by omega),cj];exact cA fun i _=>(e2 i).symm
     refine bz.weaken hS r.j _ _ (by rw [List.getElem?_map,hj];rfl) (fun ud=>G7 ud) (fun k=>(x.val ρ).ownBlock=some k∧(md=true∨0<(r.p.len.den ρ 0).toNat)) (fun k hk=>?_) ⟨?_,fun k=>Iff.rfl⟩
     ·rw [KV dB]at hk;refine(XR.2 k).2 ⟨hk.1,hk.2.imp (fun h=>G7 h) fun h=>?_⟩;omega
     ·cases md with
      | true=>
       simp only [if_true];have cI:=XR.1;rw [G7 rfl]at cI;simp only [if_true]at cI;have:=(vI dB v2 cI).1;rw [fe]at this;exact this
      | false=>
       simp only [Bool.false_eq_true,if_false];have:=KT dB (uP XR).1;rw [fe]at this;refine⟨?_,this⟩;rw [c_,e1,←hw]
   ·cases hg
  ·cases hg
 ·cases hg
theorem Nm{L:Nat→LC}: ∀{vcs:List BE} {f:F} {ρ:Env},VC P ao (vcF vcs f) ρ L→(∀b∈vcs,b.prop ρ)∧VC P ao f ρ L
 | [],f,ρ,h=>⟨by simp,h⟩
 | b::r,f,ρ,h=>by
  obtain⟨h1,h2⟩:=h;obtain⟨h3,h4⟩:=Nm (h2 h1);exact⟨fun c hc=>(ai0.1 hc).elim (fun e=>e▸h1) (h3 c),h4⟩
theorem yN(hp:List Ck)(i j:Nat): ∃σ:Nat→Nat,(∀a b,σ a=σ b→a=b)∧(∀k,k<hp.length→σ k<hp.length)∧(∀k,hp.length≤k→σ k=k)∧∀k,(swapAt hp i j)[k]? =hp[σ k]? :=by
 unfold swapAt;split
 ·rename_i d c hi hj;have li:=(aiN.1 hi).1;have lj:=(aiN.1 hj).1;refine⟨fun k=>if k=i then j else if k=j then i else k,fun a b=>?_,fun k hk=>?_,fun k hk=>?_,fun k=>?_⟩
  ·simp only;split<;>split<;>(try split)<;>(try split)<;>omega
  ·simp only;split
   ·exact lj
   ·split
    ·exact li
    ·exact hk
  ·simp only;rw [if_neg (by omega),if_neg (by omega)]
  ·simp only [List.getElem?_set,List.length_set];by_cases h1:k=i
   ·subst h1;by_cases h2:j=k
    ·subst h2;simp [li];exact(aiN.1 hi).2.symm
    ·rw [if_neg h2,if_pos rfl,if_pos rfl,if_pos li,hj]
   ·by_cases h2:k=j
    ·subst h2;rw [if_pos rfl,if_pos lj,if_neg h1,if_pos rfl,hi]
    ·rw [if_neg (fun e=>h2 e.symm),if_neg (fun e=>h1 e.symm),if_neg h1,if_neg h2]
 ·exact⟨fun k=>k,fun _ _ h=>h,fun _ h=>h,fun _ _=>rfl,fun _=>rfl⟩
theorem yO(hp:List Ck)(i j:Nat):(swapAt hp i j).length=hp.length:=by
 unfold swapAt;split
 ·simp
 ·rfl
theorem Nn{hp:List Ck}{i j:Nat}{p:Ck→Bool}(h:hp.all p=true):(swapAt hp i j).all p=true:=by
 obtain⟨σ,_,_,_,hg⟩:=yN hp i j;rw [aiM]at h ⊢;intro x hx;obtain⟨k,hk⟩:=List.getElem?_of_mem hx;rw [hg]at hk;exact h x (ajn hk)
theorem No{hp:List Ck}{i j:Nat}{ρ:Env}{Fs:List HP}{w:World}(h:bz (hp.map (Ck.den ρ)++Fs) w):bz ((swapAt hp i j).map (Ck.den ρ)++Fs) w:=by
 obtain⟨σ,h1,h2,h3,h4⟩:=yN hp i j;refine h.tf (fun k=>some (σ k)) (fun k x hx=> .inr ⟨σ k,rfl,?_⟩) (fun a b c ha hb _ _=>h1 a b ?_)
 ·by_cases hk:k<hp.length
  ·rw [aiR (by rw [List.length_map,yO];exact hk),List.getElem?_map,h4]at hx;rw [aiR (by rw [List.length_map];exact h2 k hk),List.getElem?_map];exact hx
  ·rw [aiW (by rw [List.length_map,yO];omega),List.length_map,yO]at hx;rw [h3 k (by omega),aiW (by rw [List.length_map];omega),List.length_map];exact hx
 ·rw [aiP]at ha hb;rw [ha,hb]
theorem Eg{T:List TI}{st cY:St}{x:rn}{wr:xM}{L:Nat→LC}{f:F}(hg:dy T st x=some (cY,wr))(h:HW Fs w0 st ρ w)(ha:HA st.fr st.nt ρ a)(hv:VC P ao (fC [wr] f) ρ L):
  ∃bF,Env.Le ρ bF∧HW Fs w0 cY bF w∧HA cY.fr cY.nt bF a∧cY.fn=st.fn∧VC P ao f bF L:=by
 cases wr with
 | nil=>
  obtain⟨g1,g2,g3,g4⟩:=KS hg h ha;exact⟨_,Env.jv _ _,g1,g2,g4,hv⟩
 | same=>
  simp only [fC]at hv;cases x with
  | slot s t=>
   simp only [dy]at hg;split at hg
   ·rw [aiO]at hg;obtain⟨_,_,he⟩:=hg;cases he
   ·cases hg
  | cell i j t=>
   simp only [dy]at hg;split at hg
   ·split at hg
    ·rw [aiO]at hg;obtain⟨_,_,he⟩:=hg;cases he
    ·cases hg
   ·cases hg
  | cut s md=>
   simp only [dy]at hg;split at hg
   ·rw [aiO]at hg;obtain⟨y,hy,he⟩:=hg;obtain⟨_,_,hw,_⟩:=iX (wr:=y.2) (cY:=y.1) hy h;simp only [ajA]at he;rw [he.2]at hw;cases hw
   ·cases hg
  | own s t=>
   simp only [dy]at hg;split at hg
   ·rw [aiO]at hg;obtain⟨y,hy,he⟩:=hg;obtain⟨_,_,hw,_⟩:=mK (wr:=y.2) (cY:=y.1) hy h;simp only [ajA]at he;rw [he.2]at hw;cases hw
   ·cases hg
  | qw i j md=>
   simp only [dy]at hg;split at hg
   ·split at hg
    ·split at hg
     ·rename_i s1 WI hy;obtain⟨_,_,hw,_⟩:=iX hy h;split at hg
      ·split at hg
       ·simp only [aiP,ajA]at hg;rw [hg.2]at hw;cases hw
       ·cases hg
      ·cases hg
     ·cases hg
    ·cases hg
   ·cases hg
  | marks=>simp [dy]at hg
  | mark=>
   simp only [dy]at hg;split at hg
   ·split at hg
    ·simp at hg
    ·cases hg
   ·simp only [aiP,ajA,and_true]at hg;subst hg;exact⟨ρ,Env.Le.refl _,h,ha,rfl,hv⟩
   ·cases hg
  | swap s i=>
   simp only [dy]at hg;split at hg
   ·simp only [aiP,ajA,and_true]at hg;subst hg;exact⟨ρ,Env.Le.refl _,⟨h.lens,h.kI,Nn h.fU,h.nh,h.kn,No h.own,h.same,h.lC⟩,ha,rfl,hv⟩
   ·cases hg
 | oZ=>
  simp only [fC,VC]at hv;cases x with
  | slot s t=>
   simp only [dy]at hg;split at hg
   ·rw [aiO]at hg;obtain⟨_,_,he⟩:=hg;cases he
   ·cases hg
  | cell i j t=>
   simp only [dy]at hg;split at hg
   ·split at hg
    ·rw [aiO]at hg;obtain⟨_,_,he⟩:=hg;cases he
    ·cases hg
   ·cases hg
  | cut s md=>
   simp only [dy]at hg;split at hg
   ·rw [aiO]at hg;obtain⟨y,hy,he⟩:=hg;obtain⟨_,_,hw,_⟩:=iX (wr:=y.2) (cY:=y.1) hy h;simp only [ajA]at he;rw [he.2]at hw;cases hw
   ·cases hg
  | own s t=>
   simp only [dy]at hg;split at hg
   ·rw [aiO]at hg;obtain⟨y,hy,he⟩:=hg;obtain⟨_,_,hw,_⟩:=mK (wr:=y.2) (cY:=y.1) hy h;simp only [ajA]at he;rw [he.2]at hw;cases hw
   ·cases hg
  | qw i j md=>
   simp only [dy]at hg;split at hg
   ·split at hg
    ·split at hg
     ·rename_i s1 WI hy;obtain⟨_,_,hw,_⟩:=iX hy h;split at hg
      ·split at hg
       ·simp only [aiP,ajA]at hg;rw [hg.2]at hw;cases hw
       ·cases hg
      ·cases hg
     ·cases hg
    ·cases hg
   ·cases hg
  | marks=>
   simp only [dy,aiP,ajA,and_true]at hg;subst hg;have hle:=Env.Co ρ (n9 []);have eu:=Env.Le.dK h.lens hle;have dz:st.aV.le {st.aV with b:=st.aV.b+1}:=by constructor<;>simp
   have hb:=iL ρ (n9 []) h.lens.b;refine⟨_,hle,⟨h.lens.mj _,cr dz h.kI,?_,eN dz h.nh,fun b hb=>(BE.gn eu (aiM.1 h.nh b hb)).1 (h.kn b hb),?_,h.same,?_⟩,?_,rfl,hv (n9 [])⟩
   ·rw [List.all_append,ai];exact⟨iA dz h.fU,by simp [Ck.sc]⟩
   ·rw [List.map_append];refine bz.add (h.yJ hle) _ (fun _=>False) (Nat.le_refl _) (fun _ _=>rfl) ?_ (fun _ hk=>hk.elim);simp only [Ck.den,hb,n_];exact⟨by simp,by simp,by simp⟩
   ·rw [List.all_cons,ai];exact⟨by simp [MK.sc],cV dz h.lC⟩
   ·have uO:=ha.more h.kI h.lC eu;refine⟨?_,uO.size,uO.aO⟩;rw [uO.defers];simp only [marks,MK.blocks,List.flatMap_cons,hb,n_,List.nil_append]
  | mark=>
   simp only [dy]at hg;split at hg;rotate_left
   ·simp at hg
   ·cases hg
   rename_i b c ds Mq;split at hg;rotate_left
   ·cases hg
   rename_i i j hi hj;simp only [aiP,ajA,and_true]at hg;subst hg;have mv:st.hp[i]? =some (.Ki b):=by
    rw [List.findIdx?_eq_some_iff_getElem]at hi;obtain⟨bX,hd,_⟩:=hi;cases hc:st.hp[i]with
    | Ki b'=>
     rw [hc]at hd;simp only [Ck.AM,beq_iff_eq]at hd;subst hd;rw [ajk bX,hc]
    | _=>rw [hc]at hd;simp [Ck.AM]at hd
   have lH:st.hp[j]? =some (.qZ c):=by
    rw [List.findIdx?_eq_some_iff_getElem]at hj;obtain⟨bX,hd,_⟩:=hj;cases hc:st.hp[j]with
    | qZ b'=>
     rw [hc]at hd;simp only [Ck.uu,beq_iff_eq]at hd;subst hd;rw [ajk bX,hc]
    | _=>rw [hc]at hd;simp [Ck.uu]at hd
   have Ts:=h.lC;rw [Mq]at Ts;simp only [List.all_cons,ai,MK.sc,ai3]at Ts;generalize hl:ρ.bv.getD b 0::pq (ρ.bv.getD c 0)=l;have hle:=Env.Co ρ (n9 l);have eu:=Env.Le.dK h.lens hle;have dz:st.aV.le {st.aV with b:=st.aV.b+1}:=by constructor<;>simp
   have hb:=iL ρ (n9 l) h.lens.b;refine⟨_,hle,⟨h.lens.mj _,cr dz h.kI,?_,eN dz h.nh,fun b hb=>(BE.gn eu (aiM.1 h.nh b hb)).1 (h.kn b hb),?_,h.same,?_⟩,?_,rfl,hv (n9 l)⟩
   ·refine aiM.2 fun q hq=>?_
    rcases ajf hq with hq | rfl
    ·rcases ajf hq with hq | rfl
     ·exact Ck.bq dz (aiM.1 h.fU q hq)
     ·rfl
    ·simp [Ck.sc]
   ·have ho:=h.yJ hle;rw [List.map_set,List.map_set];have e1:(st.hp.map (Ck.den (ρ.mj (n9 l))))[i]? =some (xH (ρ.bv.getD b 0)):=by
     rw [List.getElem?_map,mv,ajI,Ck.den,←eu.b b Ts.1]
    have e2:(st.hp.map (Ck.den (ρ.mj (n9 l))))[j]? =some (kM (pq (ρ.bv.getD c 0))):=by
     rw [List.getElem?_map,lH,ajI,Ck.den,←eu.b c Ts.2.1]
    have:=ho.Ef e1 e2 (by rintro rfl;rw [mv]at lH;cases lH);rw [hl]at this;rw [show(Ck.qZ st.aV.b).den (ρ.mj (n9 l))=kM l by simp only [Ck.den,hb,n_]];exact this
   ·rw [List.all_cons,ai];exact⟨by simp [MK.sc],cV dz Ts.2.2⟩
   ·have uO:=ha.more h.kI h.lC eu;refine⟨?_,uO.size,uO.aO⟩;rw [ha.defers,Mq];rw [show marks ρ (.one b:: .many c::ds)=l.map (fun b=>{target:= .collected b,args:= #[]})++marks ρ ds by simp [marks,MK.blocks,←hl],tj eu Ts.2.2];simp only [marks,MK.blocks,List.flatMap_cons,hb,n_,List.map_append]
  | swap s i=>
   simp only [dy]at hg;split at hg
   ·simp at hg
   ·cases hg
 | cut vcs=>
  simp only [fC]at hv;obtain⟨bW,hv⟩:=Nm hv;simp only [VC]at hv;cases x with
  | slot s t=>
   simp only [dy]at hg;split at hg
   ·rw [aiO]at hg;obtain⟨_,_,he⟩:=hg;cases he
   ·cases hg
  | cell i j t=>
   simp only [dy]at hg;split at hg
   ·split at hg
    ·rw [aiO]at hg;obtain⟨_,_,he⟩:=hg;cases he
    ·cases hg
   ·cases hg
  | cut s md=>
   simp only [dy]at hg;split at hg
   ·rename_i x hl;rw [aiO]at hg;obtain⟨⟨s1,WI⟩,hy,he⟩:=hg;cases he;obtain⟨XS,iz,ud,hHW,e1,e2,e3,e4,_⟩:=iX hy h;cases ud;have h1:=hHW bW;have hle:=Env.jv ρ ⟨x.val ρ,iz⟩;have eu:=Env.Le.dK h.lens hle;have uO:=ha.more h.kI h.lC eu;have vE:(SV.vv st.aV.v).sc s1.aV=true:=by rw [e4];simp [SV.sc]
    refine⟨_,hle,h1.put vE,⟨by rw [(dL _ _ _).2.2.2.1,e2];exact uO.defers,by rw [(dL _ _ _).2.2.2.1,e2];exact ha.size,fun q v hq=>?_⟩,by rw [(dL _ _ _).2.2.2.2,e3],hv _⟩;simp only [St.put]at hq;unfold look at hq;split at hq
    ·rename_i I7;rw [beq_iff_eq]at I7;subst I7;cases hq;rw [ha.aO _ _ hl];simp only [SV.val,dE ρ _ h.lens.v]
    ·rename_i I7;rw [mI s _ q (fun e=>I7 (by simp [e])),e1]at hq;exact uO.aO q v hq
   ·cases hg
  | own s t=>
   simp only [dy]at hg;split at hg
   ·rename_i x hl;rw [aiO]at hg;obtain⟨⟨s1,WI⟩,hy,he⟩:=hg;cases he;obtain⟨XS,iz,ud,h1,e1,e2,e3,e4⟩:=mK hy h;cases ud;have hle:=Env.jv ρ ⟨x.val ρ,iz⟩;have eu:=Env.Le.dK h.lens hle;have uO:=ha.more h.kI h.lC eu;have vE:(SV.vv st.aV.v).sc s1.aV=true:=by rw [e4];simp [SV.sc]
    refine⟨_,hle,h1.put vE,⟨by rw [(dL _ _ _).2.2.2.1,e2];exact uO.defers,by rw [(dL _ _ _).2.2.2.1,e2];exact ha.size,fun q v hq=>?_⟩,by rw [(dL _ _ _).2.2.2.2,e3],hv _⟩;simp only [St.put]at hq;unfold look at hq;split at hq
    ·rename_i I7;rw [beq_iff_eq]at I7;subst I7;cases hq;rw [ha.aO _ _ hl];simp only [SV.val,dE ρ _ h.lens.v]
    ·rename_i I7;rw [mI s _ q (fun e=>I7 (by simp [e])),e1]at hq;exact uO.aO q v hq
   ·cases hg
  | qw i j md=>
   simp only [dy]at hg;split at hg
   ·rename_i b wr cs hi;split at hg
    ·rename_i x hj;split at hg
     ·rename_i s1 WI hy;obtain⟨XS,iz,ud,hHW,e1,e2,e3,e4,jj,md0,v0,t0,s0,n0,Xr,ck,e5,e6⟩:=iX hy h;split at hg
      ·rename_i b' w' xJ mv;split at hg
       ·cases hg;cases ud;have h1:=hHW bW;have hle:=Env.jv ρ ⟨x.val ρ,iz⟩;have eu:=Env.Le.dK h.lens hle;have uO:=ha.more h.kI h.lC eu;have vE:(SV.vv st.aV.v).sc s1.aV=true:=by rw [e4];simp [SV.sc]
        have dI:jj≠i:=by
         intro e;subst e;rw [hi]at e5;cases e5
        have Gy:s1.hp[i]? =some (.row b wr cs):=by
         rw [e6,ajj dI];exact hi
        have Hb:=aiM.1 h1.fU _ (ajn Gy);simp only [Ck.sc,ai]at Hb;have GU:x.sc st.aV=true:=by
         have:=aiM.1 h.fU _ (ajn hi);simp only [Ck.sc,ai]at this;have key: ∀{l:List SV} {k:Nat} {y:SV},SV.o6 st.aV l=true→l[k]? =some y→y.sc st.aV=true:=by
          intro l
          induction l with
          | nil=>intro k y _ hy;simp at hy
          | cons z r ih=>
           intro k y hl hy;simp only [SV.o6,ai]at hl;cases k with
           | zero=>simp at hy;subst hy;exact hl.1
           | succ k=>exact ih hl.2 (by simpa using hy)
         exact key this.2 hj
        have M5:x.plain=true:=by
         unfold xN at hy;split at hy
         ·rename_i r hr;cases x<;>first | rfl | simp [fB]at hr
         ·cases hy
        have yK:(Ck.row b wr (cs.set j (.vv st.aV.v))).den (ρ.gf ⟨x.val ρ,iz⟩)=(Ck.row b wr cs).den (ρ.gf ⟨x.val ρ,iz⟩):=by
         simp only [Ck.den];rw [r_ hj];rw [gC _ M5,←(SV.uM eu GU).1];simp only [SV.cells,dE ρ _ h.lens.v]
        have Ha:(s1.hp.set i (.row b wr (cs.set j (.vv st.aV.v)))).map (Ck.den (ρ.gf ⟨x.val ρ,iz⟩))=s1.hp.map (Ck.den (ρ.gf ⟨x.val ρ,iz⟩)):=by
         rw [List.map_set,yK];apply List.ext_getElem?;intro q;rw [List.getElem?_set];split
         ·rename_i hq;subst hq;split
          ·rw [List.getElem?_map,Gy];rfl
          ·rename_i bX;rw [ajz (by omega)]
         ·rfl
        refine⟨_,hle,⟨h1.lens,h1.kI,?_,h1.nh,h1.kn,by rw [Ha];exact h1.own,h1.same,h1.lC⟩,⟨by rw [e2];exact uO.defers,by rw [e2];exact ha.size,by rw [e1];exact uO.aO⟩,e3,hv _⟩;refine aiM.2 fun q hq=>?_
        rcases ajf hq with hq | rfl
        ·exact aiM.1 h1.fU q hq
        ·simp only [Ck.sc,ai];exact⟨Hb.1,Cp Hb.2 vE⟩
       ·cases hg
      ·cases hg
     ·cases hg
    ·cases hg
   ·cases hg
  | marks=>simp [dy]at hg
  | mark=>
   simp only [dy]at hg;split at hg
   ·split at hg
    ·simp at hg
    ·cases hg
   ·simp at hg
   ·cases hg
  | swap s i=>
   simp only [dy]at hg;split at hg
   ·simp at hg
   ·cases hg
theorem Cq(x:xM)(r:List xM)(f:F):fC (x::r) f=fC [x] (fC r f):=by cases x<;>rfl
theorem jw{T:List TI}{L:Nat→LC}{f:F}: ∀{xs:List rn} {st cY:St} {n:List xM} {ρ:Env},rP T st xs=some (cY,n)→HW Fs w0 st ρ w→HA st.fr st.nt ρ a→VC P ao (fC n f) ρ L→
  ∃bF,Env.Le ρ bF∧HW Fs w0 cY bF w∧HA cY.fr cY.nt bF a∧cY.fn=st.fn∧VC P ao f bF L
 | [],st,cY,n,ρ,h,hw,ha,hv=>by
  simp only [rP,aiP,ajA]at h;obtain⟨rfl,rfl⟩:=h;exact⟨ρ,Env.Le.refl _,hw,ha,rfl,hv⟩
 | x::xs,st,cY,n,ρ,h,hw,ha,hv=>by
  unfold rP at h;split at h
  ·rename_i s1 h1;split at h
   ·rename_i s2 k h2;simp only [aiP,ajA]at h;obtain⟨rfl,rfl⟩:=h;rw [Cq]at hv;obtain⟨qL,g0,g1,g2,g4,g5⟩:=Eg h1 hw ha hv;obtain⟨bF,q1,q2,q3,q5,q6⟩:=jw h2 g1 g2 g5;exact⟨bF,g0.trans q1,q2,q3,q5.trans g4,q6⟩
   ·cases h
  ·cases h
end
def FW(ro:Option Nat):Fence:={Fence.wide with round:=ro}
section
variable {P:Program} {C:Ctx} {ao:Value→List HP→Prop} {Fs:List HP} {w0:World} {ρ:Env} {a:Act} {w:World}
def XT(e:zX)(r:F):F:=
 match e with
 | .new _=> .Qr r
 | .app .. => .DG r
 | .own .. => .DG r
 | .DH .. => .DG r
 | _=>r
theorem yP{st:St}(S:Nat→Nat→Prop)(hS:Sep (st.hp.map (Ck.den ρ)++Fs) S w)(rd:List Nat):Reads st.hp ρ w S rd:=by
 intro j _ ck hj;refine(hS.at_ j (ck.den ρ) ?_).1;rw [aiR (by simpa using (aiN.1 hj).1),List.getElem?_map,hj];rfl
theorem Al(st:St)(e:zX):(cT st e).fr=st.fr∧(cT st e).nt=st.nt∧(cT st e).fn=st.fn∧(cT st e).known=st.known∧(cT st e).aV=e.grow st.aV:=by
 cases e<;>exact⟨rfl,rfl,rfl,rfl,rfl⟩
theorem Np{st:St}{res:hU}{S:Nat→Nat→Prop}{run:Result Next}{r:F}{L:Nat→LC}(hw:HW Fs w0 st ρ w)(hS:Sep (st.hp.map (Ck.den ρ)++Fs) S w)
  (hd:sx P ρ w st.hp S st.aV.b st.aV.v run res) (iT:res.sc st.aV=true) (bW: ∀b∈res.vcs,b.prop ρ) (hv:VC P ao (XT res.hZ r) ρ L):
  ∃u w' bF,(run= .ok (.value u) w'∨(u=undef∧run= .ok .skip w'))∧Env.Le ρ bF∧HW Fs w0 {cT st res.hZ with known:=more res.vcs st.known} bF w'∧
   u=res.val.val bF∧res.val.sc (res.hZ.grow st.aV)=true∧VC P ao r bF L:=by
 obtain⟨rv,P9,Tu,re⟩:=res;simp only [hU.sc,ai]at iT;obtain⟨⟨kx,vO⟩,ke⟩:=iT;have r9: ∀b∈more P9 st.known,b.prop ρ:=fun b hb=>(ajt.1 hb).elim (fun h=>bW b (aja.1 h).1) (hw.kn b)
 have Am:(more P9 st.known).all (BE.sc st.aV)=true:=by
  unfold more;rw [List.all_append,hw.nh,Bool.and_true];exact aiM.2 fun x hx=>aiM.1 vO x (aja.1 hx).1
 cases re with
 | none=>
  refine⟨rv.val ρ,w,ρ,.inl hd,Env.Le.refl _,⟨hw.lens,hw.kI,hw.fU,Am,r9,hw.own,hw.same,hw.lC⟩,rfl,kx,hv⟩
 | new ck=>
  obtain⟨w',WB,gu,hr,sA,eS,hk,hp⟩:=hd;have hle:=Env.Co ρ w.heap.size;have eu:=Env.Le.dK hw.lens hle;have dz:st.aV.le {st.aV with b:=st.aV.b+1}:=by constructor<;>simp
  refine⟨_,w',ρ.mj w.heap.size,.inl hr,hle,⟨hw.lens.mj _,cr dz hw.kI,?_,eN dz Am,fun b hb=>?_,?_,hw.same.trans sA,cV dz hw.lC⟩,rfl,kx,hv _⟩
  ·simp only [cT,List.all_append,ai];refine⟨iA dz hw.fU,?_⟩;simp only [List.all_cons,List.all_nil,Bool.and_true];unfold G2 at gu;split at gu
   ·split at gu
    ·rename_i hb;subst hb;simp only [zX.sc]at ke;simp only [Ck.sc,ai,ai3];exact⟨Nat.lt_succ_self _,SV.eM dz ke⟩
    ·cases gu
   ·split at gu
    ·rename_i hb;subst hb;simp only [zX.sc,ai]at ke;simp only [Ck.sc,ai,ai3];exact⟨⟨⟨Nat.lt_succ_self _,SV.eM dz ke.1.1⟩,E.bq dz ke.1.2⟩,iV dz ke.2⟩
    ·cases gu
   ·split at gu
    ·rename_i hb;subst hb;simp only [zX.sc,ai]at ke;simp only [Ck.sc,ai,ai3];exact⟨⟨Nat.lt_succ_self _,SV.eM dz ke.1⟩,aiM.2 fun e he=>SV.eM dz (aiM.1 ke.2 e he)⟩
    ·cases gu
   ·split at gu
    ·rename_i hb;subst hb;simp only [zX.sc,ai]at ke;simp only [Ck.sc,ai,ai3];exact⟨⟨Nat.lt_succ_self _,E.bq dz ke.1⟩,E.bq dz ke.2⟩
    ·cases gu
   ·split at gu
    ·rename_i hb;subst hb;simp only [Ck.sc,ai3];exact Nat.lt_succ_self _
    ·cases gu
   ·cases gu
  ·exact(BE.gn eu (aiM.1 Am b hb)).1 (r9 b hb)
  ·simp only [cT,List.map_append];refine bz.add (S':=fun k=>k=w.heap.size) ?_ _ (by omega) hk ?_ (fun k hk=>by omega)
   ·rw [←jZ eu hw.fU];exact hw.own
   ·unfold G2 at gu;split at gu
    ·split at gu
     ·rename_i cs hb;subst hb;cases gu;simp only [zX.sc]at ke;simp only [Ck.den,iL ρ _ hw.lens.b];have:SV.aA ρ cs=SV.aA (ρ.mj w.heap.size) cs:=(SV.fH eu ke).2;rw [←this];exact hp
     ·cases gu
    ·split at gu
     ·rename_i kl ka va z has aD hb;subst hb;cases gu;simp only [zX.sc,ai]at ke;have hc:aD.map (bR.cells ρ)=aD.map (bR.cells (ρ.mj w.heap.size)):=ajq fun k hk=>bR.yE eu (aiM.1 ke.2 k hk)
      simp only [Ck.den,iL ρ _ hw.lens.b];rw [←(SV.fH eu ke.1.1).2,←E.bN eu ke.1.2,←hc];exact hp
     ·cases gu
    ·split at gu
     ·rename_i kl ka va z es hb;subst hb;cases gu;simp only [zX.sc,ai]at ke;have hr:(fun i=>SV.aA ρ (mT es z i))=fun i=>SV.aA (ρ.mj w.heap.size) (mT es z i):=funext fun i=>(SV.fH eu (Cj ke.1 ke.2 i)).2
      rw [Ck.kB,iL ρ _ hw.lens.b,←(SV.fH eu ke.1).2,←hr];exact hp
     ·cases gu
    ·split at gu
     ·rename_i t e n a hb;subst hb;cases gu;simp only [zX.sc,ai]at ke;simp only [Ck.den,iL ρ _ hw.lens.b];rw [←E.bN eu ke.1,←E.bN eu ke.2];exact hp
     ·cases gu
    ·split at gu
     ·rename_i hb;subst hb;cases gu;simp only [Ck.den,iL ρ _ hw.lens.b];exact hp
     ·cases gu
    ·cases gu
 | set j ck=>
  obtain⟨w',hr,hW⟩:=hd;simp only at hr;have hr:run= .ok (.value (rv.val ρ)) w'∨(rv.val ρ=undef∧run= .ok .skip w'):=by
   rcases hr with hr | ⟨rfl,hr⟩
   ·exact .inl hr
   ·exact .inr ⟨rfl,hr⟩
  obtain⟨Qz,hj,ud⟩:=hW.WA;have hjd:(st.hp.map (Ck.den ρ))[j]? =some (Qz.den ρ):=by rw [List.getElem?_map,hj];rfl
  refine⟨rv.val ρ,w',ρ,hr,Env.Le.refl _,⟨hw.lens,hw.kI,?_,Am,r9,?_,hw.same.trans hW.same,hw.lC⟩,rfl,kx,hv⟩
  ·refine aiM.2 fun q hq=>?_
   rcases ajf hq with hq | rfl
   ·exact aiM.1 hw.fU q hq
   ·exact ke
  ·simp only [cT,List.map_set];exact bz.step hS j _ _ hjd ud (S j) (by rw [hW.size];exact Nat.le_refl _) (fun k _ hk=>hW.Un k hk) hW.now (fun k hk=> .inl hk)
 | app j ck=>
  obtain⟨t,s,n,aD,v,w',S',rfl,ml,hr,h1,⟨Qz,hj,ud⟩,sA,hk,hp,dB⟩:=hd;simp only at ml;subst ml;have hle:=Env.jv ρ ⟨v,h1⟩;have eu:=Env.Le.dK hw.lens hle;have dz:st.aV.le {st.aV with v:=st.aV.v+1}:=by constructor<;>simp
  simp only [zX.sc,ai]at ke;have hjd:(st.hp.map (Ck.den (ρ.gf ⟨v,h1⟩)))[j]? =some (Qz.den ρ):=by rw [←jZ eu hw.fU,List.getElem?_map,hj];rfl
  refine⟨v,w',ρ.gf ⟨v,h1⟩,.inl hr,hle,⟨hw.lens.gf _,cr dz hw.kI,?_,eN dz Am,fun b hb=>?_,?_,hw.same.trans sA,cV dz hw.lC⟩,?_,kx,hv _⟩
  ·refine aiM.2 fun q hq=>?_
   rcases ajf hq with hq | rfl
   ·exact Ck.bq dz (aiM.1 hw.fU q hq)
   ·simp only [cT,Ck.sc,ai,ai3];exact⟨⟨Nat.lt_succ_self _,E.bq dz ke.1⟩,iV dz ke.2⟩
  ·exact(BE.gn eu (aiM.1 Am b hb)).1 (r9 b hb)
  ·simp only [cT,List.map_set];refine bz.step (S:=S) ?_ j _ _ hjd ud S' sA.size hk ?_ dB
   ·rw [←jZ eu hw.fU];exact hS
   ·simp only [Ck.den,dE ρ _ hw.lens.v];rw [←E.bN eu ke.1,←tb eu ke.2];exact hp
  ·simp only [SV.val,dE ρ _ hw.lens.v]
 | own ck=>
  obtain⟨t,s,n,aD,v,w',S',rfl,ml,hr,h1,sA,hk,hp,dB⟩:=hd;simp only at ml;subst ml;have hle:=Env.jv ρ ⟨v,h1⟩;have eu:=Env.Le.dK hw.lens hle;have dz:st.aV.le {st.aV with v:=st.aV.v+1}:=by constructor<;>simp
  simp only [zX.sc,ai]at ke;refine⟨v,w',ρ.gf ⟨v,h1⟩,.inl hr,hle,⟨hw.lens.gf _,cr dz hw.kI,?_,eN dz Am,fun b hb=>?_,?_,hw.same.trans sA,cV dz hw.lC⟩,?_,kx,hv _⟩
  ·simp only [cT,List.all_append,ai];refine⟨iA dz hw.fU,?_⟩;simp only [List.all_cons,List.all_nil,Ck.sc,Bool.and_true,ai,ai3];exact⟨⟨Nat.lt_succ_self _,E.bq dz ke.1⟩,iV dz ke.2⟩
  ·exact(BE.gn eu (aiM.1 Am b hb)).1 (r9 b hb)
  ·simp only [cT,List.map_append];refine bz.add (S':=S') ?_ _ sA.size hk ?_ dB
   ·rw [←jZ eu hw.fU];exact hw.own
   ·simp only [Ck.den,dE ρ _ hw.lens.v];rw [←E.bN eu ke.1,←tb eu ke.2];exact hp
  ·simp only [SV.val,dE ρ _ hw.lens.v]
 | DH ck=>
  obtain⟨t,s,n,aD,v,w',S',rfl,ml,hr,h1,sA,hk,hp,dB⟩:=hd;simp only at ml;subst ml;have hle:=Env.jv ρ ⟨v,h1⟩;have eu:=Env.Le.dK hw.lens hle;have dz:st.aV.le {st.aV with v:=st.aV.v+1}:=by constructor<;>simp
  simp only [zX.sc,ai]at ke;refine⟨v,w',ρ.gf ⟨v,h1⟩,.inl hr,hle,⟨hw.lens.gf _,cr dz hw.kI,?_,eN dz Am,fun b hb=>?_,?_,hw.same.trans sA,cV dz hw.lC⟩,?_,kx,hv _⟩
  ·simp only [cT,List.all_append,ai];refine⟨iA dz hw.fU,?_⟩;simp only [List.all_cons,List.all_nil,Ck.sc,Bool.and_true,ai,ai3];exact⟨⟨Nat.lt_succ_self _,E.bq dz ke.1⟩,iV dz ke.2⟩
  ·exact(BE.gn eu (aiM.1 Am b hb)).1 (r9 b hb)
  ·simp only [cT,List.map_append];refine bz.add (S':=S') ?_ _ sA.size hk ?_ dB
   ·rw [←jZ eu hw.fU];exact hw.own
   ·simp only [Ck.den,dE ρ _ hw.lens.v];rw [←E.bN eu ke.1,←tb eu ke.2];exact hp
  ·simp only [SV.val,dE ρ _ hw.lens.v]
theorem lp{g:Option BE}{st:St}{o:Oper}{res:hU}(h:oa C g st o=some res):
  dt C.T (AN g st.known st.fr) st.hp st.aV.b st.aV.v o=some res∧res.sc st.aV=true:=by
 unfold oa at h;split at h
 ·rename_i r hr;split at h
  ·rename_i hs;cases h;exact⟨hr,hs⟩
  ·cases h
 ·cases h
theorem yQ{g:Option BE}{st:St}{o:Oper}{res:hU}(h:DJ C g st o=some res):
  (g=some (.lit false)∧res={val:= .undef})∨oa C g st o=some res:=by
 unfold DJ at h;split at h
 ·cases h;exact .inl ⟨rfl,rfl⟩
 ·exact .inr h
theorem uQ{T:List TI}{lk:Nat→Option SV}{hp:List Ck}{nb nv:Nat}{o:Oper}{res:hU}(h:dt T lk hp nb nv o=some res): ∀c,o.op≠ .defer c:=by
 intro c hc;unfold dt at h;rw [hc]at h;cases h
theorem mL{ro:Option Nat}{o:Oper}{K:Act→World→Prop}{Q:Exit→Act→World→Prop}{u:Value}{w':World}(gu: ∀c,o.op≠ .defer c)
  (hr:(execOp a.eval o).run P w= .ok (.value u) w'∨(u=undef∧(execOp a.eval o).run P w= .ok .skip w')) (hk:K (a.put o.dst u) w'):o.wpIn (FW ro) 0 P a w K Q:=by
 refine⟨fun f _=>trivial,?_⟩;rw [Oper.semAt_eq _ _ _ gu];rcases hr with hr | ⟨rfl,hr⟩
 ·rw [hr];exact hk
 ·rw [hr];exact hk
theorem An{ro:Option Nat}{o:Oper}{K:Act→World→Prop}{Q:Exit→Act→World→Prop}(h:({o with guard:=none}:Oper).wpIn (FW ro) 0 P a w K Q):o.wpIn (FW ro) 0 P a w K Q:=h
end
end Go.RX
