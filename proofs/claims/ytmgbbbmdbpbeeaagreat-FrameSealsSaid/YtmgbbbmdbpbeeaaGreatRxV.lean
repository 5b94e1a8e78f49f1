/- Executor. -/
import Derived.Test.YtmgbbbmdbpbeeaaGreatRxU
open Bool renaming and_eq_true → ai
open Int renaming toNat → ag
open List renaming all_eq_true → aeT, getElem?_append_left → ae1, getElem?_append_right → ae2, getElem?_eq_getElem → afA, getElem?_eq_none → afz, getElem?_eq_some_iff → aeV, getElem?_set_ne → afn, mem_cons → afd, mem_of_getElem? → afr, mem_or_eq_of_mem_set → afv
open Nat renaming blt_eq → afb
open Option renaming getD_some → afG, map_eq_some_iff → aeY
open Option.some renaming injEq → aeX
open Prod.mk renaming injEq → afB
namespace Go.RX
section
variable {P:Program} {C:Ctx} {ar:Value→List HP→Prop} {Fs:List HP} {w0:World} {ρ:Env} {a:Act} {w:World}
theorem Env.CD(ρ:Env)(b:Nat):Env.Le ρ (ρ.lI b):=by rw [Env.P6];exact Env.fX _ _
theorem Env.jk(ρ:Env)(v:V1):Env.Le ρ (ρ.fW v):=by rw [Env.P7];exact Env.fX _ _
theorem fJ.lI{c:cP}(h:fJ ρ c)(b:Nat):fJ (ρ.lI b) {c with b:=c.b+1}:=
 ⟨by simp [Env.lI,h.b],h.v,h.i,h.a,h.bo,h.p,h.r⟩
theorem fJ.fW{c:cP}(h:fJ ρ c)(v:V1):fJ (ρ.fW v) {c with v:=c.v+1}:=
 ⟨h.b,by simp [Env.fW,h.v],h.i,h.a,h.bo,h.p,h.r⟩
theorem dN(ρ:Env)(v:V1){n:Nat}(h:ρ.vv.length=n):(ρ.fW v).vv.getD n V1.nil=v:=by
 subst h;simp [Env.fW]
theorem iG(ρ:Env)(b:Nat){n:Nat}(h:ρ.bv.length=n):(ρ.lI b).bv.getD n 0=b:=by
 subst h;simp [Env.lI]
theorem rO{ρ:Env}: ∀{cs:List SV} {j:Nat} {x y:SV},cs[j]? =some x→SV.cells ρ y=SV.cells ρ x→SV.aC ρ (cs.set j y)=SV.aC ρ cs
 | [],j,x,y,h,_=>by simp at h
 | c::cs,0,x,y,h,e=>by
  simp only [List.getElem?_cons_zero,aeX]at h;subst h;simp only [List.set_cons_zero,SV.aC,e]
 | c::cs,j+1,x,y,h,e=>by
  simp only [List.getElem?_cons_succ]at h;simp only [List.set_cons_succ,SV.aC,rO h e]
theorem CE{c:cP}: ∀{cs:List SV} {j:Nat} {y:SV},SV.oK c cs=true→y.sc c=true→SV.oK c (cs.set j y)=true
 | [],j,y,h,_=>by simpa using h
 | x::cs,0,y,h,e=>by
  simp only [SV.oK,ai]at h;simp only [List.set_cons_zero,SV.oK,ai];exact⟨e,h.2⟩
 | x::cs,j+1,y,h,e=>by
  simp only [SV.oK,ai]at h;simp only [List.set_cons_succ,SV.oK,ai];exact⟨h.1,CE h.2 e⟩
theorem HW.yP{st:St}{bI:Env}(h:HW Fs w0 st ρ w)(hle:Env.Le ρ bI):bK (st.hp.map (Ck.den bI)++Fs) w:=by
 rw [←jz (Env.Le.agree h.lens hle) h.fm];exact h.own
theorem vG{T:List TI}{st c_:St}{t:Nat}(hg:I1 T st t=some c_)(h:HW Fs w0 st ρ w):
  HW Fs w0 c_ (ρ.fW ⟨.slice none 0 0,rfl⟩) w∧c_.fr=st.fr∧c_.nt=st.nt∧c_.fn=st.fn∧c_.bd={st.bd with v:=st.bd.v+1}∧∃ck,c_.hp=st.hp++[ck]:=by
 unfold I1 at hg;split at hg
 ·rename_i ti aF cQ eB;split at hg
  ·rename_i iJ;cases hg;have hle:=Env.jk ρ ⟨.slice none 0 0,rfl⟩;have dH:st.bd.le {st.bd with v:=st.bd.v+1}:=by constructor<;>simp
   refine⟨⟨h.lens.fW _,cF dH h.kd,?_,eT dH h.mL,fun b hb=>?_,?_,h.same,c6 dH h.kS⟩,rfl,rfl,rfl,rfl,_,rfl⟩
   ·rw [List.all_append,ai];refine⟨ik dH h.fm,?_⟩;simp only [List.all_cons,List.all_nil,Ck.sc,E.sc,Bool.and_true,ai,afb];exact⟨Nat.lt_succ_self _,iM dH iJ⟩
   ·exact(BE.gf (Env.Le.agree h.lens hle) (aeT.1 h.mL b hb)).1 (h.kn b hb)
   ·rw [List.map_append];refine bK.add (h.yP hle) _ (fun _=>False) (Nat.le_refl _) (fun _ _=>rfl) ?_ (fun _ hk=>hk.elim);simp only [Ck.den,dN ρ _ h.lens.v];refine⟨?_,fun k=>by simp [Value.ownBlock]⟩;simp only [if_true];exact js w t ti.size
  ·cases hg
 ·cases hg
theorem bK.weaken{a b:List HP}{w:World}{S:Nat→Nat→Prop}(h:Sep (a++b) S w)(i:Nat)(h0 h':HP)(hi:a[i]? =some h0)(hw:h'.wr=true→h0.wr=true)
  (S':Nat→Prop) (dI: ∀k,S' k→S i k) (hp:h'.p w S'):bK (a.set i h'++b) w:=by
 have bU:i<a.length:=(aeV.1 hi).1;have mi:(a++b)[i]? =some h0:=by rw [ae1 bU];exact hi
 have hold: ∀(j:Nat) x,(a.set i h'++b)[j]? =some x→∃y,(a++b)[j]? =some y∧(x.wr=true→y.wr=true)∧(j≠i→x=y)∧(j=i→x=h'):=by
  intro j x hx;by_cases hj:j=i
  ·subst hj;rw [ae1 (by simpa using bU),List.getElem?_set_self bU]at hx;cases hx;exact⟨h0,mi,hw,fun h=>absurd rfl h,fun _=>rfl⟩
  ·refine⟨x,?_,id,fun _=>rfl,fun h=>absurd h hj⟩;by_cases Ud:j<a.length
   ·rw [ae1 (by simpa using Ud),afn (Ne.symm hj)]at hx;rw [ae1 Ud];exact hx
   ·rw [ae2 (by simp;omega),List.length_set]at hx;rw [ae2 (by omega)];exact hx
 have Oo: ∀j k,(if j=i then S' k else S j k)→S j k:=by
  intro j k hk;split at hk
  ·rename_i hj;subst hj;exact dI k hk
  ·exact hk
 refine⟨fun j k=>if j=i then S' k else S j k,⟨fun j x hx=>?_,fun j k x y eZ hx hy tx q h1 h2=>?_⟩⟩
 ·obtain⟨y,hy,_,h1,h2⟩:=hold j x hx;obtain⟨hpy,hb⟩:=h.at_ j y hy;refine⟨?_,fun k hk=>hb k (Oo j k hk)⟩;by_cases hj:j=i
  ·subst hj;rw [h2 rfl];simp only [if_true];exact hp
  ·rw [h1 hj];simp only [hj,if_false];exact hpy
 ·obtain⟨x',R4,wx,_,_⟩:=hold j x hx;obtain⟨y',UA,wy,_,_⟩:=hold k y hy;exact h.apart j k x' y' eZ R4 UA (tx.imp wx wy) q (Oo j q h1) (Oo k q h2)
theorem mg{st c_:St}{x:SV}{ty:Nat}{wr:yF}(hg:Oe st x ty=some (c_,wr))(h:HW Fs w0 st ρ w):
  ∃vcs iR,wr= .cut vcs∧HW Fs w0 c_ (ρ.fW ⟨x.val ρ,iR⟩) w∧c_.fr=st.fr∧c_.nt=st.nt∧c_.fn=st.fn∧c_.bd={st.bd with v:=st.bd.v+1}:=by
 unfold Oe at hg;split at hg
 case h_2=>cases hg
 rename_i b ix s n m;split at hg
 case h_2=>cases hg
 rename_i j b' cs q PZ YH hn;split at hg
 case h_2=>cases hg
 rename_i ki kl a JZ;split at hg
 case isFalse=>cases hg
 rename_i hc;obtain⟨rfl,rfl,hq,Mk,XM,hsa⟩:=hc;cases hg;have VF:n.den ρ 0=(q:Int):=cy (ρ:=ρ) hn;have VG:ix.den ρ 0=((0:Nat):Int):=cy (ρ:=ρ) YH;have F_:(SV.sl b ix 1 n n).val ρ= .slice (some ⟨ρ.bv.getD b 0,0,none⟩) q q:=by simp [SV.val,VF,VG]
 obtain⟨hj,dC⟩:=cO PZ;simp only [Ck.qv,beq_iff_eq]at dC;subst dC;obtain⟨S,hS⟩:=h.own;have cV:Reads st.hp ρ w S [j]:=by
  intro j _ ck hj;refine(hS.at_ j (ck.den ρ) ?_).1;rw [ae1 (by simpa using (aeV.1 hj).1),List.getElem?_map,hj];rfl
 have Xd:=cV j (by simp) _ hj;have ft:SV.aC ρ cs=al ki q (a.den ρ):=by
  have P4:=gv (ρ:=ρ) JZ;rw [Mk,List.length_replicate,nN]at P4;exact P4
 have hlen:(SV.aC ρ cs).length=q:=by rw [ft,aG]
 have Mm:(ax (ρ.bv.getD b 0) true (SV.aC ρ cs)).p w (S j):=Xd;have cM:=sC (t:=ty) Mm (by rw [hlen];unfold maxLen;omega);rw [hlen,ft]at cM;refine⟨[],by rw [F_];rfl,rfl,?_,rfl,rfl,rfl,rfl⟩;have iR:((SV.sl b ix 1 n n).val ρ).oneCell'=true:=by rw [F_];rfl
 have hle:=Env.jk ρ ⟨(SV.sl b ix 1 n n).val ρ,iR⟩;have eD:=Env.Le.agree h.lens hle;have dH:st.bd.le {st.bd with v:=st.bd.v+1}:=by constructor<;>simp
 refine⟨h.lens.fW _,cF dH h.kd,?_,eT dH h.mL,fun b hb=>(BE.gf eD (aeT.1 h.mL b hb)).1 (h.kn b hb),?_,h.same,c6 dH h.kS⟩
 ·refine aeT.2 fun z hz=>?_
  rcases afv hz with hz | rfl
  ·exact Ck.bA dH (aeT.1 h.fm z hz)
  ·simp only [Ck.sc,ai,afb,List.all_cons,List.all_nil,bV.sc,CK.sc,E.sc,and_true];exact⟨Nat.lt_succ_self _,E.bA dH hsa⟩
 ·simp only [List.map_set];have Hj:st.hp.map (Ck.den (ρ.fW ⟨(SV.sl b ix 1 n n).val ρ,iR⟩))=st.hp.map (Ck.den ρ):=(jz eD h.fm).symm;rw [Hj];have xW:(Ck.bC true st.bd.v ty 1 (.lit (q:Int)) [⟨.int ki,1,a⟩]).den (ρ.fW ⟨(SV.sl b ix 1 n n).val ρ,iR⟩)=aE true ty 1 (.slice (some ⟨ρ.bv.getD b 0,0,none⟩) q q) q (al ki q (a.den ρ)):=by
   simp only [Ck.den,dN ρ _ h.lens.v];rw [eo,←E.bQ eD hsa];have YJ: ∀r:Env,((E.lit (q:Int)).den r 0).toNat=q:=fun r=>by show ag (q:Int)=q;omega
   rw [YJ,F_]
  rw [xW];refine bK.weaken hS j _ _ (by rw [List.getElem?_map,hj];rfl) (fun _=>rfl) (fun k=>(Value.slice (some ⟨ρ.bv.getD b 0,0,none⟩) q q).ownBlock=some k∧(true=true∨0<q)) (fun k hk=>?_) ⟨?_,fun k=>Iff.rfl⟩
  ·refine(Mm.1 k).2 ?_;have:=hk.1;simp only [Value.ownBlock,aeX]at this
   first | exact this.symm | exact this
  ·simp only [if_true];exact cM
theorem KR{T:List TI}{st c_:St}{x:qS}(hg:dG T st x=some (c_,.nil))(h:HW Fs w0 st ρ w)(ha:HA st.fr st.nt ρ a):
  HW Fs w0 c_ (ρ.fW ⟨.slice none 0 0,rfl⟩) w∧HA c_.fr c_.nt (ρ.fW ⟨.slice none 0 0,rfl⟩) a∧c_.nt=st.nt∧c_.fn=st.fn:=by
 have hle:=Env.jk ρ ⟨.slice none 0 0,rfl⟩;have eD:=Env.Le.agree h.lens hle;have ub:=ha.more h.kd h.kS eD;cases x with
 | slot s t=>
  simp only [dG]at hg;split at hg
  ·rename_i hl;rw [aeY]at hg;obtain⟨s1,j_,Rk⟩:=hg;cases Rk;obtain⟨h1,e1,e2,e3,e4,ck,e5⟩:=vG j_ h;have hv:(SV.vv st.bd.v).sc s1.bd=true:=by rw [e4];simp [SV.sc]
   refine⟨h1.put hv,⟨by rw [(dR _ _ _).2.2.2.1,e2];exact ub.defers,by rw [(dR _ _ _).2.2.2.1,e2];exact ha.size,fun q v hq=>?_⟩,by rw [(dR _ _ _).2.2.2.1,e2],by rw [(dR _ _ _).2.2.2.2,e3]⟩;simp only [St.put]at hq;unfold look at hq;split at hq
   ·rename_i I6;rw [beq_iff_eq]at I6;subst I6;cases hq;rw [ha.aT _ _ hl];simp only [SV.val,dN ρ _ h.lens.v]
   ·rename_i I6;rw [mc s _ q (fun e=>I6 (by simp [e])),e1]at hq;exact ub.aT q v hq
  ·cases hg
 | cell i j t=>
  simp only [dG]at hg;split at hg
  ·rename_i b wr cs hi;split at hg
   ·rename_i hj;rw [aeY]at hg;obtain⟨s1,j_,Rk⟩:=hg;cases Rk;obtain⟨h1,e1,e2,e3,e4,ck,e5⟩:=vG j_ h;have hv:(SV.vv st.bd.v).sc s1.bd=true:=by rw [e4];simp [SV.sc]
    have mi:s1.hp[i]? =some (.row b wr cs):=by
     rw [e5,ae1 (aeV.1 hi).1];exact hi
    have Hk:=aeT.1 h1.fm _ (afr mi);simp only [Ck.sc,ai]at Hk;have xW:(Ck.row b wr (cs.set j (.vv st.bd.v))).den (ρ.fW ⟨.slice none 0 0,rfl⟩)=(Ck.row b wr cs).den (ρ.fW ⟨.slice none 0 0,rfl⟩):=by
     simp only [Ck.den];rw [rO hj];simp only [SV.cells,dN ρ _ h.lens.v]
    have Hj:(s1.hp.set i (.row b wr (cs.set j (.vv st.bd.v)))).map (Ck.den (ρ.fW ⟨.slice none 0 0,rfl⟩))=s1.hp.map (Ck.den (ρ.fW ⟨.slice none 0 0,rfl⟩)):=by
     rw [List.map_set,xW];apply List.ext_getElem?;intro q;rw [List.getElem?_set];split
     ·rename_i hq;subst hq;split
      ·rw [List.getElem?_map,mi];rfl
      ·rename_i bU;rw [afz (by omega)]
     ·rfl
    refine⟨⟨h1.lens,h1.kd,?_,h1.mL,h1.kn,by rw [Hj];exact h1.own,h1.same,h1.kS⟩,⟨by rw [e2];exact ub.defers,by rw [e2];exact ha.size,by rw [e1];exact ub.aT⟩,e2,e3⟩;refine aeT.2 fun q hq=>?_
    rcases afv hq with hq | rfl
    ·exact aeT.1 h1.fm q hq
    ·simp only [Ck.sc,ai];exact⟨Hk.1,CE Hk.2 hv⟩
   ·cases hg
  ·cases hg
 | cut s md=>
  simp only [dG]at hg;split at hg
  ·rw [aeY]at hg;obtain⟨y,hy,he⟩:=hg;exfalso;unfold yG at hy;split at hy
   ·split at hy
    ·split at hy
     ·cases hy;cases he
     ·cases hy
    ·cases hy
   ·cases hy
  ·cases hg
 | own s t=>
  simp only [dG]at hg;split at hg
  ·rw [aeY]at hg;obtain⟨y,hy,he⟩:=hg;exfalso;obtain⟨_,_,hw,_⟩:=mg (wr:=y.2) (c_:=y.1) hy h;simp only [afB]at he;rw [he.2]at hw;cases hw
  ·cases hg
 | s9 i j md=>
  simp only [dG]at hg;split at hg
  ·split at hg
   ·split at hg
    ·rename_i kN UW hy;exfalso;have:UW≠ .nil:=by
      unfold yG at hy;split at hy
      ·split at hy
       ·split at hy
        ·cases hy;simp
        ·cases hy
       ·cases hy
      ·cases hy
     split at hg
     ·split at hg
      ·simp only [aeX,afB]at hg;exact this hg.2
      ·cases hg
     ·cases hg
    ·cases hg
   ·cases hg
  ·cases hg
 | marks=>simp [dG]at hg
 | mark=>
  simp only [dG]at hg;split at hg
  ·split at hg
   ·simp at hg
   ·cases hg
  ·simp at hg
  ·cases hg
 | swap s i=>
  simp only [dG]at hg;split at hg
  ·simp at hg
  ·cases hg
theorem bK.Fq{a b:List HP}{w:World}{i j k:Nat}{l:List Nat}(h:bK (a++b) w)(hi:a[i]? =some (xe k))(hj:a[j]? =some (kj l))(ru:i≠j):
  bK ((a.set i HP.emp).set j (kj (k::l))++b) w:=by
 obtain⟨S,hS⟩:=h;have By:i<a.length:=(aeV.1 hi).1;have UI:j<a.length:=(aeV.1 hj).1;have Is:(a++b)[i]? =some (xe k):=by rw [ae1 By];exact hi
 have X3:(a++b)[j]? =some (kj l):=by rw [ae1 UI];exact hj
 obtain⟨⟨p1,p2⟩,p3⟩:=hS.at_ i _ Is;obtain⟨⟨q1,q2,q3⟩,q4⟩:=hS.at_ j _ X3;have CL:w.heap[k]? =some (.deferred (some [])):=p2;have hap: ∀x,S i x→¬S j x:=hS.apart i j _ _ ru Is X3 (.inl rfl);have old: ∀(m:Nat) x,((a.set i HP.emp).set j (kj (k::l))++b)[m]? =some x→(m=i∧x=HP.emp)∨(m=j∧x=kj (k::l))∨(m≠i∧m≠j∧(a++b)[m]? =some x):=by
  intro m x hx;by_cases X4:m<a.length
  ·rw [ae1 (by simpa using X4)]at hx;by_cases Z8:m=j
   ·subst Z8;rw [List.getElem?_set_self (by simpa using X4)]at hx;cases hx;exact .inr (.inl ⟨rfl,rfl⟩)
   ·rw [afn (Ne.symm Z8)]at hx;by_cases Z9:m=i
    ·subst Z9;rw [List.getElem?_set_self X4]at hx;cases hx;exact .inl ⟨rfl,rfl⟩
    ·rw [afn (Ne.symm Z9)]at hx;exact .inr (.inr ⟨Z9,Z8,by rw [ae1 X4];exact hx⟩)
  ·rw [ae2 (by simp;omega)]at hx;simp only [List.length_set]at hx;exact .inr (.inr ⟨by omega,by omega,by rw [ae2 (by omega)];exact hx⟩)
 refine⟨fun m x=>if m=i then False else if m=j then S i x∨S j x else S m x,⟨fun m x hx=>?_,fun m n x y DV hx hy tx z h1 h2=>?_⟩⟩
 ·rcases old m x hx with⟨rfl,rfl⟩ | ⟨rfl,rfl⟩ | ⟨h1,h2,h3⟩
  ·simp only [if_true];exact⟨fun _ h=>h,fun _ h=>h.elim⟩
  ·simp only [Ne.symm ru,if_false,if_true];refine⟨⟨fun x=>?_,?_,fun b hb=>?_⟩,fun x hx=>hx.elim (p3 x) (q4 x)⟩
   ·simp only [p1,q1,afd]
   ·exact List.nodup_cons.2 ⟨fun hk=>hap k ((p1 k).2 rfl) ((q1 k).2 hk),q2⟩
   ·rcases afd.1 hb with rfl | hb
    ·exact CL
    ·exact q3 b hb
  ·simp only [h1,h2,if_false];exact hS.at_ m x h3
 ·rcases old m x hx with⟨rfl,rfl⟩ | ⟨rfl,rfl⟩ | ⟨h3,h4,h5⟩
  ·simp only [if_true]at h1
  ·simp only [Ne.symm ru,if_false,if_true]at h1;rcases old n y hy with⟨rfl,rfl⟩ | ⟨rfl,rfl⟩ | ⟨h6,h7,h8⟩
   ·simp only [if_true]at h2
   ·exact DV rfl
   ·simp only [h6,h7,if_false]at h2;exact h1.elim (fun h1=>hS.apart i n _ _ (Ne.symm h6) Is h8 (.inl rfl) z h1 h2) (fun h1=>hS.apart m n _ _ (Ne.symm h7) X3 h8 (.inl rfl) z h1 h2)
  ·simp only [h3,h4,if_false]at h1;rcases old n y hy with⟨rfl,rfl⟩ | ⟨rfl,rfl⟩ | ⟨h6,h7,h8⟩
   ·simp only [if_true]at h2
   ·simp only [Ne.symm ru,if_false,if_true]at h2;exact h2.elim (fun h2=>hS.apart m i _ _ h3 h5 Is (.inr rfl) z h1 h2) (fun h2=>hS.apart m n _ _ h4 h5 X3 (.inr rfl) z h1 h2)
   ·simp only [h6,h7,if_false]at h2;exact hS.apart m n _ _ DV h5 h8 tx z h1 h2
theorem KS{s:Nat}{v x:Value}{n:E}{p:Part}{cs:List Value}(h:lp ρ s v x n p)(hv:World.views w v (n.den ρ 0).toNat cs):
  World.views w x (p.len.den ρ 0).toNat ((cs.drop ((p.lo.den ρ 0).toNat*s)).take ((p.len.den ρ 0).toNat*s)):=by
 obtain⟨h1,h2,h3,a,c,k,rfl,hc,rfl,hk⟩:=h;obtain⟨a',m,c',he,rfl,PK,ko,hr⟩:=hv;cases he;have JV:(p.lo.den ρ 0).toNat+(p.len.den ρ 0).toNat≤((p.mx.map fun m=>m.den ρ 0).map ag).getD c∨(p.len.den ρ 0).toNat=0:=by
  cases hm:(p.mx.map fun m=>m.den ρ 0)with
  | none=>simp only [Option.map_none,Option.getD_none];omega
  | some m=>have:=h3 m hm;simp only [Option.map_some,afG];omega
 refine⟨_,_,_,rfl,rfl,by omega,?_,?_⟩
 ·intro hn;cases a with
  | none=>have:=ko rfl;omega
  | some a=>cases hn
 ·intro ad pW;rw [aeY]at pW;obtain⟨a0,rfl,rfl⟩:=pW;obtain⟨hs,ln⟩:=hr a0 rfl;refine⟨fun _=>KO _ _ (hs (by omega)),fun j u hu=>?_⟩;rw [List.getElem?_take]at hu;split at hu
  ·rename_i hj;have hN:(p.len.den ρ 0).toNat≠0:=by intro h;rw [h,Nat.zero_mul]at hj;omega
   rw [List.getElem?_drop]at hu;rw [hk (.inl (by omega)),dq];exact ln _ _ hu
  ·cases hu
theorem KT{s:Nat}{v x:Value}{n:E}{p:Part}(h:lp ρ s v x n p):x.ownBlock=v.ownBlock:=by
 obtain⟨h1,h2,h3,a,c,k,rfl,hc,rfl,hk⟩:=h;cases a with
 | none=>rfl
 | some a=>
  simp only [Option.map_some,Value.ownBlock,Addr.add];split<;>rfl
theorem iQ{st c_:St}{x:SV}{md:Bool}{wr:yF}(hg:yG st x md=some (c_,wr))(h:HW Fs w0 st ρ w):
  ∃vcs iR,wr= .cut vcs∧((∀b∈vcs,b.prop ρ)→HW Fs w0 c_ (ρ.fW ⟨x.val ρ,iR⟩) w)∧c_.fr=st.fr∧c_.nt=st.nt∧c_.fn=st.fn∧c_.bd={st.bd with v:=st.bd.v+1}∧
   ∃j md0 v0 t s n aF ck,st.hp[j]? =some (.bC md0 v0 t s n aF)∧c_.hp=st.hp.set j ck:=by
 unfold yG at hg;split at hg
 ·rename_i r hr;split at hg
  ·rename_i aF eB;split at hg
   ·rename_i hc;obtain⟨hw,He,j_,vW⟩:=hc;cases hg;have iR:(x.val ρ).oneCell'=true:=by
     have j9:=ρ.ok;cases x with
     | vv i=>exact j9.vvD i
     | jP v cs s=>exact mh _ _ _ _ (ρ.vv.getD v V1.nil).one
     | _=>simp [fE]at hr
    obtain⟨S,hS⟩:=h.own;have cV:Reads st.hp ρ w S [r.j]:=by
     intro j _ ck hj;refine(hS.at_ j (ck.den ρ) ?_).1;rw [ae1 (by simpa using (aeV.1 hj).1),List.getElem?_map,hj];rfl
    have hj:st.hp[r.j]? =some (.bC r.md r.v r.t r.s r.n r.aF):=by
     unfold fE at hr;split at hr
     ·split at hr
      ·rename_i hf;cases hr;obtain⟨hj,dC⟩:=cU hf;simp only [Ck.lO,beq_iff_eq]at dC;subst dC;exact hj
      ·cases hr
     ·split at hr
      ·rename_i hf;split at hr
       ·rename_i hss;cases hr;obtain⟨hj,dC⟩:=cU hf;simp only [Ck.lO,beq_iff_eq]at dC;subst dC;exact hj
       ·cases hr
      ·cases hr
     ·cases hr
    refine⟨_,iR,rfl,fun bY=>?_,rfl,rfl,rfl,rfl,r.j,_,_,_,_,_,_,_,hj,rfl⟩;obtain⟨v1,v2⟩:=bD bY;have v2:=bq v2;simp only [E.den]at v2;obtain⟨_,dI⟩:=eQ hr cV v1;have hle:=Env.jk ρ ⟨x.val ρ,iR⟩;have eD:=Env.Le.agree h.lens hle;have dH:st.bd.le {st.bd with v:=st.bd.v+1}:=by constructor<;>simp
    have Xd:=cV r.j (by simp) _ hj;refine⟨h.lens.fW _,cF dH h.kd,?_,eT dH h.mL,fun b hb=>(BE.gf eD (aeT.1 h.mL b hb)).1 (h.kn b hb),?_,h.same,c6 dH h.kS⟩
    ·refine aeT.2 fun q hq=>?_
     rcases afv hq with hq | rfl
     ·exact Ck.bA dH (aeT.1 h.fm q hq)
     ·simp only [Ck.sc,ai,afb];exact⟨⟨Nat.lt_succ_self _,E.bA dH j_⟩,iM dH vW⟩
    ·simp only [List.map_set];have Hj:st.hp.map (Ck.den (ρ.fW ⟨x.val ρ,iR⟩))=st.hp.map (Ck.den ρ):=(jz eD h.fm).symm;rw [Hj];have xW:(Ck.bC md st.bd.v r.t r.s r.p.len aF).den (ρ.fW ⟨x.val ρ,iR⟩)=aE md r.t r.s (x.val ρ) (r.p.len.den ρ 0).toNat (aM ρ (r.p.len.den ρ 0).toNat aF):=by
      simp only [Ck.den,dN ρ _ h.lens.v];rw [←E.bQ eD j_,←sF eD vW]
     rw [xW];obtain⟨e1,e2⟩:=jh dI.lo eB;have h2:=dI.hi;have h1:=dI.lo;have ft:((aM ρ (r.n.den ρ 0).toNat r.aF).drop ((r.p.lo.den ρ 0).toNat*r.s)).take ((r.p.len.den ρ 0).toNat*r.s)=aM ρ (r.p.len.den ρ 0).toNat aF:=by
      rw [ct,hw,s_ (dh ρ r.aF) _ _ _ (by omega),ct];exact cH fun i _=>(e2 i).symm
     refine bK.weaken hS r.j _ _ (by rw [List.getElem?_map,hj];rfl) (fun tx=>He tx) (fun k=>(x.val ρ).ownBlock=some k∧(md=true∨0<(r.p.len.den ρ 0).toNat)) (fun k hk=>?_) ⟨?_,fun k=>Iff.rfl⟩
     ·rw [KT dI]at hk;refine(Xd.2 k).2 ⟨hk.1,hk.2.imp (fun h=>He h) fun h=>?_⟩;omega
     ·cases md with
      | true=>
       simp only [if_true];have cM:=Xd.1;rw [He rfl]at cM;simp only [if_true]at cM;have:=(vE dI v2 cM).1;rw [ft]at this;exact this
      | false=>
       simp only [Bool.false_eq_true,if_false];have:=KS dI (ug Xd).1;rw [ft]at this;refine⟨?_,this⟩;rw [dj,e1,←hw]
   ·cases hg
  ·cases hg
 ·cases hg
theorem Oq{L:Nat→LC}: ∀{vcs:List BE} {f:F} {ρ:Env},VC P ar (ZZ vcs f) ρ L→(∀b∈vcs,b.prop ρ)∧VC P ar f ρ L
 | [],f,ρ,h=>⟨by simp,h⟩
 | b::r,f,ρ,h=>by
  obtain⟨h1,h2⟩:=h;obtain⟨h3,h4⟩:=Oq (h2 h1);exact⟨fun c hc=>(afd.1 hc).elim (fun e=>e▸h1) (h3 c),h4⟩
theorem yQ(hp:List Ck)(i j:Nat): ∃σ:Nat→Nat,(∀a b,σ a=σ b→a=b)∧(∀k,k<hp.length→σ k<hp.length)∧(∀k,hp.length≤k→σ k=k)∧∀k,(swapAt hp i j)[k]? =hp[σ k]? :=by
 unfold swapAt;split
 ·rename_i d c hi hj;have li:=(aeV.1 hi).1;have lj:=(aeV.1 hj).1;refine⟨fun k=>if k=i then j else if k=j then i else k,fun a b=>?_,fun k hk=>?_,fun k hk=>?_,fun k=>?_⟩
  ·simp only;split<;>split<;>(try split)<;>(try split)<;>omega
  ·simp only;split
   ·exact lj
   ·split
    ·exact li
    ·exact hk
  ·simp only;rw [if_neg (by omega),if_neg (by omega)]
  ·simp only [List.getElem?_set,List.length_set];by_cases h1:k=i
   ·subst h1;by_cases h2:j=k
    ·subst h2;simp [li];exact(aeV.1 hi).2.symm
    ·rw [if_neg h2,if_pos rfl,if_pos rfl,if_pos li,hj]
   ·by_cases h2:k=j
    ·subst h2;rw [if_pos rfl,if_pos lj,if_neg h1,if_pos rfl,hi]
    ·rw [if_neg (fun e=>h2 e.symm),if_neg (fun e=>h1 e.symm),if_neg h1,if_neg h2]
 ·exact⟨fun k=>k,fun _ _ h=>h,fun _ h=>h,fun _ _=>rfl,fun _=>rfl⟩
theorem yR(hp:List Ck)(i j:Nat):(swapAt hp i j).length=hp.length:=by
 unfold swapAt;split
 ·simp
 ·rfl
theorem Ot{hp:List Ck}{i j:Nat}{p:Ck→Bool}(h:hp.all p=true):(swapAt hp i j).all p=true:=by
 obtain⟨σ,_,_,_,hg⟩:=yQ hp i j;rw [aeT]at h ⊢;intro x hx;obtain⟨k,hk⟩:=List.getElem?_of_mem hx;rw [hg]at hk;exact h x (afr hk)
theorem Ou{hp:List Ck}{i j:Nat}{ρ:Env}{Fs:List HP}{w:World}(h:bK (hp.map (Ck.den ρ)++Fs) w):bK ((swapAt hp i j).map (Ck.den ρ)++Fs) w:=by
 obtain⟨σ,h1,h2,h3,h4⟩:=yQ hp i j;refine h.sI (fun k=>some (σ k)) (fun k x hx=> .inr ⟨σ k,rfl,?_⟩) (fun a b c ha hb _ _=>h1 a b ?_)
 ·by_cases hk:k<hp.length
  ·rw [ae1 (by rw [List.length_map,yR];exact hk),List.getElem?_map,h4]at hx;rw [ae1 (by rw [List.length_map];exact h2 k hk),List.getElem?_map];exact hx
  ·rw [ae2 (by rw [List.length_map,yR];omega),List.length_map,yR]at hx;rw [h3 k (by omega),ae2 (by rw [List.length_map];omega),List.length_map];exact hx
 ·rw [aeX]at ha hb;rw [ha,hb]
theorem Ft{T:List TI}{st c_:St}{x:qS}{wr:yF}{L:Nat→LC}{f:F}(hg:dG T st x=some (c_,wr))(h:HW Fs w0 st ρ w)(ha:HA st.fr st.nt ρ a)(hv:VC P ar (fL [wr] f) ρ L):
  ∃bI,Env.Le ρ bI∧HW Fs w0 c_ bI w∧HA c_.fr c_.nt bI a∧c_.fn=st.fn∧VC P ar f bI L:=by
 cases wr with
 | nil=>
  obtain⟨g1,g2,g3,g4⟩:=KR hg h ha;exact⟨_,Env.jk _ _,g1,g2,g4,hv⟩
 | same=>
  simp only [fL]at hv;cases x with
  | slot s t=>
   simp only [dG]at hg;split at hg
   ·rw [aeY]at hg;obtain⟨_,_,he⟩:=hg;cases he
   ·cases hg
  | cell i j t=>
   simp only [dG]at hg;split at hg
   ·split at hg
    ·rw [aeY]at hg;obtain⟨_,_,he⟩:=hg;cases he
    ·cases hg
   ·cases hg
  | cut s md=>
   simp only [dG]at hg;split at hg
   ·rw [aeY]at hg;obtain⟨y,hy,he⟩:=hg;obtain⟨_,_,hw,_⟩:=iQ (wr:=y.2) (c_:=y.1) hy h;simp only [afB]at he;rw [he.2]at hw;cases hw
   ·cases hg
  | own s t=>
   simp only [dG]at hg;split at hg
   ·rw [aeY]at hg;obtain⟨y,hy,he⟩:=hg;obtain⟨_,_,hw,_⟩:=mg (wr:=y.2) (c_:=y.1) hy h;simp only [afB]at he;rw [he.2]at hw;cases hw
   ·cases hg
  | s9 i j md=>
   simp only [dG]at hg;split at hg
   ·split at hg
    ·split at hg
     ·rename_i s1 UW hy;obtain⟨_,_,hw,_⟩:=iQ hy h;split at hg
      ·split at hg
       ·simp only [aeX,afB]at hg;rw [hg.2]at hw;cases hw
       ·cases hg
      ·cases hg
     ·cases hg
    ·cases hg
   ·cases hg
  | marks=>simp [dG]at hg
  | mark=>
   simp only [dG]at hg;split at hg
   ·split at hg
    ·simp at hg
    ·cases hg
   ·simp only [aeX,afB,and_true]at hg;subst hg;exact⟨ρ,Env.Le.refl _,h,ha,rfl,hv⟩
   ·cases hg
  | swap s i=>
   simp only [dG]at hg;split at hg
   ·simp only [aeX,afB,and_true]at hg;subst hg;exact⟨ρ,Env.Le.refl _,⟨h.lens,h.kd,Ot h.fm,h.mL,h.kn,Ou h.own,h.same,h.kS⟩,ha,rfl,hv⟩
   ·cases hg
 | mR=>
  simp only [fL,VC]at hv;cases x with
  | slot s t=>
   simp only [dG]at hg;split at hg
   ·rw [aeY]at hg;obtain⟨_,_,he⟩:=hg;cases he
   ·cases hg
  | cell i j t=>
   simp only [dG]at hg;split at hg
   ·split at hg
    ·rw [aeY]at hg;obtain⟨_,_,he⟩:=hg;cases he
    ·cases hg
   ·cases hg
  | cut s md=>
   simp only [dG]at hg;split at hg
   ·rw [aeY]at hg;obtain⟨y,hy,he⟩:=hg;obtain⟨_,_,hw,_⟩:=iQ (wr:=y.2) (c_:=y.1) hy h;simp only [afB]at he;rw [he.2]at hw;cases hw
   ·cases hg
  | own s t=>
   simp only [dG]at hg;split at hg
   ·rw [aeY]at hg;obtain⟨y,hy,he⟩:=hg;obtain⟨_,_,hw,_⟩:=mg (wr:=y.2) (c_:=y.1) hy h;simp only [afB]at he;rw [he.2]at hw;cases hw
   ·cases hg
  | s9 i j md=>
   simp only [dG]at hg;split at hg
   ·split at hg
    ·split at hg
     ·rename_i s1 UW hy;obtain⟨_,_,hw,_⟩:=iQ hy h;split at hg
      ·split at hg
       ·simp only [aeX,afB]at hg;rw [hg.2]at hw;cases hw
       ·cases hg
      ·cases hg
     ·cases hg
    ·cases hg
   ·cases hg
  | marks=>
   simp only [dG,aeX,afB,and_true]at hg;subst hg;have hle:=Env.CD ρ (nJ []);have eD:=Env.Le.agree h.lens hle;have dH:st.bd.le {st.bd with b:=st.bd.b+1}:=by constructor<;>simp
   have hb:=iG ρ (nJ []) h.lens.b;refine⟨_,hle,⟨h.lens.lI _,cF dH h.kd,?_,eT dH h.mL,fun b hb=>(BE.gf eD (aeT.1 h.mL b hb)).1 (h.kn b hb),?_,h.same,?_⟩,?_,rfl,hv (nJ [])⟩
   ·rw [List.all_append,ai];exact⟨ik dH h.fm,by simp [Ck.sc]⟩
   ·rw [List.map_append];refine bK.add (h.yP hle) _ (fun _=>False) (Nat.le_refl _) (fun _ _=>rfl) ?_ (fun _ hk=>hk.elim);simp only [Ck.den,hb,nK];exact⟨by simp,by simp,by simp⟩
   ·rw [List.all_cons,ai];exact⟨by simp [MK.sc],c6 dH h.kS⟩
   ·have ub:=ha.more h.kd h.kS eD;refine⟨?_,ub.size,ub.aT⟩;rw [ub.defers];simp only [marks,MK.blocks,List.flatMap_cons,hb,nK,List.nil_append]
  | mark=>
   simp only [dG]at hg;split at hg;rotate_left
   ·simp at hg
   ·cases hg
   rename_i b c ds Li;split at hg;rotate_left
   ·cases hg
   rename_i i j hi hj;simp only [aeX,afB,and_true]at hg;subst hg;have mi:st.hp[i]? =some (.J1 b):=by
    rw [List.findIdx?_eq_some_iff_getElem]at hi;obtain⟨bU,hd,_⟩:=hi;cases hc:st.hp[i]with
    | J1 b'=>
     rw [hc]at hd;simp only [Ck.AW,beq_iff_eq]at hd;subst hd;rw [afA bU,hc]
    | _=>rw [hc]at hd;simp [Ck.AW]at hd
   have k9:st.hp[j]? =some (.qy c):=by
    rw [List.findIdx?_eq_some_iff_getElem]at hj;obtain⟨bU,hd,_⟩:=hj;cases hc:st.hp[j]with
    | qy b'=>
     rw [hc]at hd;simp only [Ck.uv,beq_iff_eq]at hd;subst hd;rw [afA bU,hc]
    | _=>rw [hc]at hd;simp [Ck.uv]at hd
   have Sm:=h.kS;rw [Li]at Sm;simp only [List.all_cons,ai,MK.sc,afb]at Sm;generalize hl:ρ.bv.getD b 0::o5 (ρ.bv.getD c 0)=l;have hle:=Env.CD ρ (nJ l);have eD:=Env.Le.agree h.lens hle;have dH:st.bd.le {st.bd with b:=st.bd.b+1}:=by constructor<;>simp
   have hb:=iG ρ (nJ l) h.lens.b;refine⟨_,hle,⟨h.lens.lI _,cF dH h.kd,?_,eT dH h.mL,fun b hb=>(BE.gf eD (aeT.1 h.mL b hb)).1 (h.kn b hb),?_,h.same,?_⟩,?_,rfl,hv (nJ l)⟩
   ·refine aeT.2 fun q hq=>?_
    rcases afv hq with hq | rfl
    ·rcases afv hq with hq | rfl
     ·exact Ck.bA dH (aeT.1 h.fm q hq)
     ·rfl
    ·simp [Ck.sc]
   ·have ho:=h.yP hle;rw [List.map_set,List.map_set];have e1:(st.hp.map (Ck.den (ρ.lI (nJ l))))[i]? =some (xe (ρ.bv.getD b 0)):=by
     rw [List.getElem?_map,mi,Option.map_some,Ck.den,←eD.b b Sm.1]
    have e2:(st.hp.map (Ck.den (ρ.lI (nJ l))))[j]? =some (kj (o5 (ρ.bv.getD c 0))):=by
     rw [List.getElem?_map,k9,Option.map_some,Ck.den,←eD.b c Sm.2.1]
    have:=ho.Fq e1 e2 (by rintro rfl;rw [mi]at k9;cases k9);rw [hl]at this;rw [show(Ck.qy st.bd.b).den (ρ.lI (nJ l))=kj l by simp only [Ck.den,hb,nK]];exact this
   ·rw [List.all_cons,ai];exact⟨by simp [MK.sc],c6 dH Sm.2.2⟩
   ·have ub:=ha.more h.kd h.kS eD;refine⟨?_,ub.size,ub.aT⟩;rw [ha.defers,Li];rw [show marks ρ (.one b:: .many c::ds)=l.map (fun b=>{target:= .collected b,args:= #[]})++marks ρ ds by simp [marks,MK.blocks,←hl],sP eD Sm.2.2];simp only [marks,MK.blocks,List.flatMap_cons,hb,nK,List.map_append]
  | swap s i=>
   simp only [dG]at hg;split at hg
   ·simp at hg
   ·cases hg
 | cut vcs=>
  simp only [fL]at hv;obtain⟨bY,hv⟩:=Oq hv;simp only [VC]at hv;cases x with
  | slot s t=>
   simp only [dG]at hg;split at hg
   ·rw [aeY]at hg;obtain⟨_,_,he⟩:=hg;cases he
   ·cases hg
  | cell i j t=>
   simp only [dG]at hg;split at hg
   ·split at hg
    ·rw [aeY]at hg;obtain⟨_,_,he⟩:=hg;cases he
    ·cases hg
   ·cases hg
  | cut s md=>
   simp only [dG]at hg;split at hg
   ·rename_i x hl;rw [aeY]at hg;obtain⟨⟨s1,UW⟩,hy,he⟩:=hg;cases he;obtain⟨Xe,iR,tx,Z_,e1,e2,e3,e4,_⟩:=iQ hy h;cases tx;have h1:=Z_ bY;have hle:=Env.jk ρ ⟨x.val ρ,iR⟩;have eD:=Env.Le.agree h.lens hle;have ub:=ha.more h.kd h.kS eD;have uU:(SV.vv st.bd.v).sc s1.bd=true:=by rw [e4];simp [SV.sc]
    refine⟨_,hle,h1.put uU,⟨by rw [(dR _ _ _).2.2.2.1,e2];exact ub.defers,by rw [(dR _ _ _).2.2.2.1,e2];exact ha.size,fun q v hq=>?_⟩,by rw [(dR _ _ _).2.2.2.2,e3],hv _⟩;simp only [St.put]at hq;unfold look at hq;split at hq
    ·rename_i I6;rw [beq_iff_eq]at I6;subst I6;cases hq;rw [ha.aT _ _ hl];simp only [SV.val,dN ρ _ h.lens.v]
    ·rename_i I6;rw [mc s _ q (fun e=>I6 (by simp [e])),e1]at hq;exact ub.aT q v hq
   ·cases hg
  | own s t=>
   simp only [dG]at hg;split at hg
   ·rename_i x hl;rw [aeY]at hg;obtain⟨⟨s1,UW⟩,hy,he⟩:=hg;cases he;obtain⟨Xe,iR,tx,h1,e1,e2,e3,e4⟩:=mg hy h;cases tx;have hle:=Env.jk ρ ⟨x.val ρ,iR⟩;have eD:=Env.Le.agree h.lens hle;have ub:=ha.more h.kd h.kS eD;have uU:(SV.vv st.bd.v).sc s1.bd=true:=by rw [e4];simp [SV.sc]
    refine⟨_,hle,h1.put uU,⟨by rw [(dR _ _ _).2.2.2.1,e2];exact ub.defers,by rw [(dR _ _ _).2.2.2.1,e2];exact ha.size,fun q v hq=>?_⟩,by rw [(dR _ _ _).2.2.2.2,e3],hv _⟩;simp only [St.put]at hq;unfold look at hq;split at hq
    ·rename_i I6;rw [beq_iff_eq]at I6;subst I6;cases hq;rw [ha.aT _ _ hl];simp only [SV.val,dN ρ _ h.lens.v]
    ·rename_i I6;rw [mc s _ q (fun e=>I6 (by simp [e])),e1]at hq;exact ub.aT q v hq
   ·cases hg
  | s9 i j md=>
   simp only [dG]at hg;split at hg
   ·rename_i b wr cs hi;split at hg
    ·rename_i x hj;split at hg
     ·rename_i s1 UW hy;obtain⟨Xe,iR,tx,Z_,e1,e2,e3,e4,jj,md0,v0,t0,s0,n0,W4,ck,e5,e6⟩:=iQ hy h;split at hg
      ·rename_i b' w' uM mi;split at hg
       ·cases hg;cases tx;have h1:=Z_ bY;have hle:=Env.jk ρ ⟨x.val ρ,iR⟩;have eD:=Env.Le.agree h.lens hle;have ub:=ha.more h.kd h.kS eD;have uU:(SV.vv st.bd.v).sc s1.bd=true:=by rw [e4];simp [SV.sc]
        have eZ:jj≠i:=by
         intro e;subst e;rw [hi]at e5;cases e5
        have FG:s1.hp[i]? =some (.row b wr cs):=by
         rw [e6,afn eZ];exact hi
        have Hk:=aeT.1 h1.fm _ (afr FG);simp only [Ck.sc,ai]at Hk;have F3:x.sc st.bd=true:=by
         have:=aeT.1 h.fm _ (afr hi);simp only [Ck.sc,ai]at this;have key: ∀{l:List SV} {k:Nat} {y:SV},SV.oK st.bd l=true→l[k]? =some y→y.sc st.bd=true:=by
          intro l
          induction l with
          | nil=>intro k y _ hy;simp at hy
          | cons z r ih=>
           intro k y hl hy;simp only [SV.oK,ai]at hl;cases k with
           | zero=>simp at hy;subst hy;exact hl.1
           | succ k=>exact ih hl.2 (by simpa using hy)
         exact key this.2 hj
        have CN:x.plain=true:=by
         unfold yG at hy;split at hy
         ·rename_i r hr;cases x<;>first | rfl | simp [fE]at hr
         ·cases hy
        have xW:(Ck.row b wr (cs.set j (.vv st.bd.v))).den (ρ.fW ⟨x.val ρ,iR⟩)=(Ck.row b wr cs).den (ρ.fW ⟨x.val ρ,iR⟩):=by
         simp only [Ck.den];rw [rO hj];rw [gu _ CN,←(SV.tY eD F3).1];simp only [SV.cells,dN ρ _ h.lens.v]
        have Hj:(s1.hp.set i (.row b wr (cs.set j (.vv st.bd.v)))).map (Ck.den (ρ.fW ⟨x.val ρ,iR⟩))=s1.hp.map (Ck.den (ρ.fW ⟨x.val ρ,iR⟩)):=by
         rw [List.map_set,xW];apply List.ext_getElem?;intro q;rw [List.getElem?_set];split
         ·rename_i hq;subst hq;split
          ·rw [List.getElem?_map,FG];rfl
          ·rename_i bU;rw [afz (by omega)]
         ·rfl
        refine⟨_,hle,⟨h1.lens,h1.kd,?_,h1.mL,h1.kn,by rw [Hj];exact h1.own,h1.same,h1.kS⟩,⟨by rw [e2];exact ub.defers,by rw [e2];exact ha.size,by rw [e1];exact ub.aT⟩,e3,hv _⟩;refine aeT.2 fun q hq=>?_
        rcases afv hq with hq | rfl
        ·exact aeT.1 h1.fm q hq
        ·simp only [Ck.sc,ai];exact⟨Hk.1,CE Hk.2 uU⟩
       ·cases hg
      ·cases hg
     ·cases hg
    ·cases hg
   ·cases hg
  | marks=>simp [dG]at hg
  | mark=>
   simp only [dG]at hg;split at hg
   ·split at hg
    ·simp at hg
    ·cases hg
   ·simp at hg
   ·cases hg
  | swap s i=>
   simp only [dG]at hg;split at hg
   ·simp at hg
   ·cases hg
theorem CF(x:yF)(r:List yF)(f:F):fL (x::r) f=fL [x] (fL r f):=by cases x<;>rfl
theorem jl{T:List TI}{L:Nat→LC}{f:F}: ∀{xs:List qS} {st c_:St} {n:List yF} {ρ:Env},rN T st xs=some (c_,n)→HW Fs w0 st ρ w→HA st.fr st.nt ρ a→VC P ar (fL n f) ρ L→
  ∃bI,Env.Le ρ bI∧HW Fs w0 c_ bI w∧HA c_.fr c_.nt bI a∧c_.fn=st.fn∧VC P ar f bI L
 | [],st,c_,n,ρ,h,hw,ha,hv=>by
  simp only [rN,aeX,afB]at h;obtain⟨rfl,rfl⟩:=h;exact⟨ρ,Env.Le.refl _,hw,ha,rfl,hv⟩
 | x::xs,st,c_,n,ρ,h,hw,ha,hv=>by
  unfold rN at h;split at h
  ·rename_i s1 h1;split at h
   ·rename_i s2 k h2;simp only [aeX,afB]at h;obtain⟨rfl,rfl⟩:=h;rw [CF]at hv;obtain⟨qe,g0,g1,g2,g4,g5⟩:=Ft h1 hw ha hv;obtain⟨bI,q1,q2,q3,q5,q6⟩:=jl h2 g1 g2 g5;exact⟨bI,g0.trans q1,q2,q3,q5.trans g4,q6⟩
   ·cases h
  ·cases h
end
end Go.RX
