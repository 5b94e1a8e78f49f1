/- Executor. -/
import Derived.Test.YtmgbbbmdbpbeeaaRxU
open Bool renaming and_eq_true → ai
open Int renaming toNat → ag
open List renaming all_eq_true → adt, getElem?_append_left → adz, getElem?_append_right → adA, getElem?_eq_getElem → ad8, getElem?_eq_none → aef, getElem?_eq_some_iff → adu, getElem?_set_ne → adY, mem_cons → adW, mem_of_getElem? → ad3, mem_or_eq_of_mem_set → ad6
open Nat renaming blt_eq → adK
open Option renaming getD_some → aee, map_eq_some_iff → adw
open Option.some renaming injEq → adv
open Prod.mk renaming injEq → ad9
namespace Go.RX
section
variable {P:Program} {C:Ctx} {ax:Value→List HP→Prop} {Fs:List HP} {w0:World} {ρ:Env} {a:Act} {w:World}
theorem Env.CT(ρ:Env)(b:Nat):Env.Le ρ (ρ.lC b):=by rw [Env.O7];exact Env.fG _ _
theorem Env.jf(ρ:Env)(v:V1):Env.Le ρ (ρ.fF v):=by rw [Env.O8];exact Env.fG _ _
theorem fg.lC{c:cG}(h:fg ρ c)(b:Nat):fg (ρ.lC b) {c with b:=c.b+1}:=
 ⟨by simp [Env.lC,h.b],h.v,h.i,h.a,h.bo,h.p,h.r⟩
theorem fg.fF{c:cG}(h:fg ρ c)(v:V1):fg (ρ.fF v) {c with v:=c.v+1}:=
 ⟨h.b,by simp [Env.fF,h.v],h.i,h.a,h.bo,h.p,h.r⟩
theorem dB(ρ:Env)(v:V1){n:Nat}(h:ρ.vv.length=n):(ρ.fF v).vv.getD n V1.nil=v:=by
 subst h;simp [Env.fF]
theorem ia(ρ:Env)(b:Nat){n:Nat}(h:ρ.bv.length=n):(ρ.lC b).bv.getD n 0=b:=by
 subst h;simp [Env.lC]
theorem rG{ρ:Env}: ∀{cs:List SV} {j:Nat} {x y:SV},cs[j]? =some x→SV.cells ρ y=SV.cells ρ x→SV.aB ρ (cs.set j y)=SV.aB ρ cs
 | [],j,x,y,h,_=>by simp at h
 | c::cs,0,x,y,h,e=>by
  simp only [List.getElem?_cons_zero,adv]at h;subst h;simp only [List.set_cons_zero,SV.aB,e]
 | c::cs,j+1,x,y,h,e=>by
  simp only [List.getElem?_cons_succ]at h;simp only [List.set_cons_succ,SV.aB,rG h e]
theorem CU{c:cG}: ∀{cs:List SV} {j:Nat} {y:SV},SV.oE c cs=true→y.sc c=true→SV.oE c (cs.set j y)=true
 | [],j,y,h,_=>by simpa using h
 | x::cs,0,y,h,e=>by
  simp only [SV.oE,ai]at h;simp only [List.set_cons_zero,SV.oE,ai];exact⟨e,h.2⟩
 | x::cs,j+1,y,h,e=>by
  simp only [SV.oE,ai]at h;simp only [List.set_cons_succ,SV.oE,ai];exact⟨h.1,CU h.2 e⟩
theorem HW.y5{st:St}{bE:Env}(h:HW Fs w0 st ρ w)(hle:Env.Le ρ bE):bG (st.hp.map (Ck.den bE)++Fs) w:=by
 rw [←jA (Env.Le.agree h.lens hle) h.fy];exact h.own
theorem vK{T:List TI}{st cT:St}{t:Nat}(hg:IQ T st t=some cT)(h:HW Fs w0 st ρ w):
  HW Fs w0 cT (ρ.fF ⟨.slice none 0 0,rfl⟩) w∧cT.fr=st.fr∧cT.nt=st.nt∧cT.fn=st.fn∧cT.aX={st.aX with v:=st.aX.v+1}∧∃ck,cT.hp=st.hp++[ck]:=by
 unfold IQ at hg;split at hg
 ·rename_i ti aH cF dP;split at hg
  ·rename_i iA;cases hg;have hle:=Env.jf ρ ⟨.slice none 0 0,rfl⟩;have dF:st.aX.le {st.aX with v:=st.aX.v+1}:=by constructor<;>simp
   refine⟨⟨h.lens.fF _,cq dF h.j9,?_,er dF h.mH,fun b hb=>?_,?_,h.same,cP dF h.kP⟩,rfl,rfl,rfl,rfl,_,rfl⟩
   ·rw [List.all_append,ai];refine⟨g9 dF h.fy,?_⟩;simp only [List.all_cons,List.all_nil,Ck.sc,E.sc,Bool.and_true,ai,adK];exact⟨Nat.lt_succ_self _,iu dF iA⟩
   ·exact(BE.fL (Env.Le.agree h.lens hle) (adt.1 h.mH b hb)).1 (h.kn b hb)
   ·rw [List.map_append];refine bG.add (h.y5 hle) _ (fun _=>False) (Nat.le_refl _) (fun _ _=>rfl) ?_ (fun _ hk=>hk.elim);simp only [Ck.den,dB ρ _ h.lens.v];refine⟨?_,fun k=>by simp [Value.ownBlock]⟩;simp only [if_true];exact js w t ti.size
  ·cases hg
 ·cases hg
theorem bG.weaken{a b:List HP}{w:World}{S:Nat→Nat→Prop}(h:Sep (a++b) S w)(i:Nat)(h0 h':HP)(hi:a[i]? =some h0)(hw:h'.wr=true→h0.wr=true)
  (S':Nat→Prop) (dz: ∀k,S' k→S i k) (hp:h'.p w S'):bG (a.set i h'++b) w:=by
 have bP:i<a.length:=(adu.1 hi).1;have mF:(a++b)[i]? =some h0:=by rw [adz bP];exact hi
 have hold: ∀(j:Nat) x,(a.set i h'++b)[j]? =some x→∃y,(a++b)[j]? =some y∧(x.wr=true→y.wr=true)∧(j≠i→x=y)∧(j=i→x=h'):=by
  intro j x hx;by_cases hj:j=i
  ·subst hj;rw [adz (by simpa using bP),List.getElem?_set_self bP]at hx;cases hx;exact⟨h0,mF,hw,fun h=>absurd rfl h,fun _=>rfl⟩
  ·refine⟨x,?_,id,fun _=>rfl,fun h=>absurd h hj⟩;by_cases SQ:j<a.length
   ·rw [adz (by simpa using SQ),adY (Ne.symm hj)]at hx;rw [adz SQ];exact hx
   ·rw [adA (by simp;omega),List.length_set]at hx;rw [adA (by omega)];exact hx
 have NA: ∀j k,(if j=i then S' k else S j k)→S j k:=by
  intro j k hk;split at hk
  ·rename_i hj;subst hj;exact dz k hk
  ·exact hk
 refine⟨fun j k=>if j=i then S' k else S j k,⟨fun j x hx=>?_,fun j k x y dR hx hy s8 q h1 h2=>?_⟩⟩
 ·obtain⟨y,hy,_,h1,h2⟩:=hold j x hx;obtain⟨hpy,hb⟩:=h.at_ j y hy;refine⟨?_,fun k hk=>hb k (NA j k hk)⟩;by_cases hj:j=i
  ·subst hj;rw [h2 rfl];simp only [if_true];exact hp
  ·rw [h1 hj];simp only [hj,if_false];exact hpy
 ·obtain⟨x',Rb,wx,_,_⟩:=hold j x hx;obtain⟨y',Tq,wy,_,_⟩:=hold k y hy;exact h.apart j k x' y' dR Rb Tq (s8.imp wx wy) q (NA j q h1) (NA k q h2)
theorem lZ{st cT:St}{x:SV}{ty:Nat}{wr:yV}(hg:Nr st x ty=some (cT,wr))(h:HW Fs w0 st ρ w):
  ∃vcs iF,wr= .cut vcs∧HW Fs w0 cT (ρ.fF ⟨x.val ρ,iF⟩) w∧cT.fr=st.fr∧cT.nt=st.nt∧cT.fn=st.fn∧cT.aX={st.aX with v:=st.aX.v+1}:=by
 unfold Nr at hg;split at hg
 case h_2=>cases hg
 rename_i b ix s n m;split at hg
 case h_2=>cases hg
 rename_i j b' cs q O4 YF hn;split at hg
 case h_2=>cases hg
 rename_i ki kl a JT;split at hg
 case isFalse=>cases hg
 rename_i hc;obtain⟨rfl,rfl,hq,LG,Wp,ZV⟩:=hc;cases hg;have VS:n.den ρ 0=(q:Int):=cl (ρ:=ρ) hn;have VT:ix.den ρ 0=((0:Nat):Int):=cl (ρ:=ρ) YF;have Gq:(SV.sl b ix 1 n n).val ρ= .slice (some ⟨ρ.bv.getD b 0,0,none⟩) q q:=by simp [SV.val,VS,VT]
 obtain⟨hj,dD⟩:=cH O4;simp only [Ck.qs,beq_iff_eq]at dD;subst dD;obtain⟨S,hS⟩:=h.own;have cJ:Reads st.hp ρ w S [j]:=by
  intro j _ ck hj;refine(hS.at_ j (ck.den ρ) ?_).1;rw [adz (by simpa using (adu.1 hj).1),List.getElem?_map,hj];rfl
 have VY:=cJ j (by simp) _ hj;have eO:SV.aB ρ cs=aj ki q (a.den ρ):=by
  have Qy:=fS (ρ:=ρ) JT;rw [LG,List.length_replicate,nG]at Qy;exact Qy
 have hlen:(SV.aB ρ cs).length=q:=by rw [eO,aF]
 have LI:(aq (ρ.bv.getD b 0) true (SV.aB ρ cs)).p w (S j):=VY;have cr:=oQ (t:=ty) LI (by rw [hlen];unfold maxLen;omega);rw [hlen,eO]at cr;refine⟨[],by rw [Gq];rfl,rfl,?_,rfl,rfl,rfl,rfl⟩;have iF:((SV.sl b ix 1 n n).val ρ).oneCell'=true:=by rw [Gq];rfl
 have hle:=Env.jf ρ ⟨(SV.sl b ix 1 n n).val ρ,iF⟩;have dQ:=Env.Le.agree h.lens hle;have dF:st.aX.le {st.aX with v:=st.aX.v+1}:=by constructor<;>simp
 refine⟨h.lens.fF _,cq dF h.j9,?_,er dF h.mH,fun b hb=>(BE.fL dQ (adt.1 h.mH b hb)).1 (h.kn b hb),?_,h.same,cP dF h.kP⟩
 ·refine adt.2 fun z hz=>?_
  rcases ad6 hz with hz | rfl
  ·exact Ck.bj dF (adt.1 h.fy z hz)
  ·simp only [Ck.sc,ai,adK,List.all_cons,List.all_nil,bS.sc,CK.sc,E.sc,and_true];exact⟨Nat.lt_succ_self _,E.bj dF ZV⟩
 ·simp only [List.map_set];have Hw:st.hp.map (Ck.den (ρ.fF ⟨(SV.sl b ix 1 n n).val ρ,iF⟩))=st.hp.map (Ck.den ρ):=(jA dQ h.fy).symm;rw [Hw];have ye:(Ck.bu true st.aX.v ty 1 (.lit (q:Int)) [⟨.int ki,1,a⟩]).den (ρ.fF ⟨(SV.sl b ix 1 n n).val ρ,iF⟩)=au true ty 1 (.slice (some ⟨ρ.bv.getD b 0,0,none⟩) q q) q (aj ki q (a.den ρ)):=by
   simp only [Ck.den,dB ρ _ h.lens.v];rw [dE,←E.bK dQ ZV];have YH: ∀r:Env,((E.lit (q:Int)).den r 0).toNat=q:=fun r=>by show ag (q:Int)=q;omega
   rw [YH,Gq]
  rw [ye];refine bG.weaken hS j _ _ (by rw [List.getElem?_map,hj];rfl) (fun _=>rfl) (fun k=>(Value.slice (some ⟨ρ.bv.getD b 0,0,none⟩) q q).ownBlock=some k∧(true=true∨0<q)) (fun k hk=>?_) ⟨?_,fun k=>Iff.rfl⟩
  ·refine(LI.1 k).2 ?_;have:=hk.1;simp only [Value.ownBlock,adv]at this
   first | exact this.symm | exact this
  ·simp only [if_true];exact cr
theorem KC{T:List TI}{st cT:St}{x:qO}(hg:dy T st x=some (cT,.nil))(h:HW Fs w0 st ρ w)(ha:HA st.fr st.nt ρ a):
  HW Fs w0 cT (ρ.fF ⟨.slice none 0 0,rfl⟩) w∧HA cT.fr cT.nt (ρ.fF ⟨.slice none 0 0,rfl⟩) a∧cT.nt=st.nt∧cT.fn=st.fn:=by
 have hle:=Env.jf ρ ⟨.slice none 0 0,rfl⟩;have dQ:=Env.Le.agree h.lens hle;have tQ:=ha.more h.j9 h.kP dQ;cases x with
 | slot s t=>
  simp only [dy]at hg;split at hg
  ·rename_i hl;rw [adw]at hg;obtain⟨s1,jT,P_⟩:=hg;cases P_;obtain⟨h1,e1,e2,e3,e4,ck,e5⟩:=vK jT h;have hv:(SV.vv st.aX.v).sc s1.aX=true:=by rw [e4];simp [SV.sc]
   refine⟨h1.put hv,⟨by rw [(dG _ _ _).2.2.2.1,e2];exact tQ.defers,by rw [(dG _ _ _).2.2.2.1,e2];exact ha.size,fun q v hq=>?_⟩,by rw [(dG _ _ _).2.2.2.1,e2],by rw [(dG _ _ _).2.2.2.2,e3]⟩;simp only [St.put]at hq;unfold look at hq;split at hq
   ·rename_i I1;rw [beq_iff_eq]at I1;subst I1;cases hq;rw [ha.aV _ _ hl];simp only [SV.val,dB ρ _ h.lens.v]
   ·rename_i I1;rw [lX s _ q (fun e=>I1 (by simp [e])),e1]at hq;exact tQ.aV q v hq
  ·cases hg
 | cell i j t=>
  simp only [dy]at hg;split at hg
  ·rename_i b wr cs hi;split at hg
   ·rename_i hj;rw [adw]at hg;obtain⟨s1,jT,P_⟩:=hg;cases P_;obtain⟨h1,e1,e2,e3,e4,ck,e5⟩:=vK jT h;have hv:(SV.vv st.aX.v).sc s1.aX=true:=by rw [e4];simp [SV.sc]
    have mF:s1.hp[i]? =some (.row b wr cs):=by
     rw [e5,adz (adu.1 hi).1];exact hi
    have Hx:=adt.1 h1.fy _ (ad3 mF);simp only [Ck.sc,ai]at Hx;have ye:(Ck.row b wr (cs.set j (.vv st.aX.v))).den (ρ.fF ⟨.slice none 0 0,rfl⟩)=(Ck.row b wr cs).den (ρ.fF ⟨.slice none 0 0,rfl⟩):=by
     simp only [Ck.den];rw [rG hj];simp only [SV.cells,dB ρ _ h.lens.v]
    have Hw:(s1.hp.set i (.row b wr (cs.set j (.vv st.aX.v)))).map (Ck.den (ρ.fF ⟨.slice none 0 0,rfl⟩))=s1.hp.map (Ck.den (ρ.fF ⟨.slice none 0 0,rfl⟩)):=by
     rw [List.map_set,ye];apply List.ext_getElem?;intro q;rw [List.getElem?_set];split
     ·rename_i hq;subst hq;split
      ·rw [List.getElem?_map,mF];rfl
      ·rename_i bP;rw [aef (by omega)]
     ·rfl
    refine⟨⟨h1.lens,h1.j9,?_,h1.mH,h1.kn,by rw [Hw];exact h1.own,h1.same,h1.kP⟩,⟨by rw [e2];exact tQ.defers,by rw [e2];exact ha.size,by rw [e1];exact tQ.aV⟩,e2,e3⟩;refine adt.2 fun q hq=>?_
    rcases ad6 hq with hq | rfl
    ·exact adt.1 h1.fy q hq
    ·simp only [Ck.sc,ai];exact⟨Hx.1,CU Hx.2 hv⟩
   ·cases hg
  ·cases hg
 | cut s md=>
  simp only [dy]at hg;split at hg
  ·rw [adw]at hg;obtain⟨y,hy,he⟩:=hg;exfalso;unfold yW at hy;split at hy
   ·split at hy
    ·split at hy
     ·cases hy;cases he
     ·cases hy
    ·cases hy
   ·cases hy
  ·cases hg
 | own s t=>
  simp only [dy]at hg;split at hg
  ·rw [adw]at hg;obtain⟨y,hy,he⟩:=hg;exfalso;obtain⟨_,_,hw,_⟩:=lZ (wr:=y.2) (cT:=y.1) hy h;simp only [ad9]at he;rw [he.2]at hw;cases hw
  ·cases hg
 | sU i j md=>
  simp only [dy]at hg;split at hg
  ·split at hg
   ·split at hg
    ·rename_i kL TM hy;exfalso;have:TM≠ .nil:=by
      unfold yW at hy;split at hy
      ·split at hy
       ·split at hy
        ·cases hy;simp
        ·cases hy
       ·cases hy
      ·cases hy
     split at hg
     ·split at hg
      ·simp only [adv,ad9]at hg;exact this hg.2
      ·cases hg
     ·cases hg
    ·cases hg
   ·cases hg
  ·cases hg
 | marks=>simp [dy]at hg
 | mark=>
  simp only [dy]at hg;split at hg
  ·split at hg
   ·simp at hg
   ·cases hg
  ·simp at hg
  ·cases hg
 | swap s i=>
  simp only [dy]at hg;split at hg
  ·simp at hg
  ·cases hg
theorem bG.FE{a b:List HP}{w:World}{i j k:Nat}{l:List Nat}(h:bG (a++b) w)(hi:a[i]? =some (xj k))(hj:a[j]? =some (kd l))(rk:i≠j):
  bG ((a.set i HP.emp).set j (kd (k::l))++b) w:=by
 obtain⟨S,hS⟩:=h;have Da:i<a.length:=(adu.1 hi).1;have Tw:j<a.length:=(adu.1 hj).1;have IY:(a++b)[i]? =some (xj k):=by rw [adz Da];exact hi
 have WJ:(a++b)[j]? =some (kd l):=by rw [adz Tw];exact hj
 obtain⟨⟨p1,p2⟩,p3⟩:=hS.at_ i _ IY;obtain⟨⟨q1,q2,q3⟩,q4⟩:=hS.at_ j _ WJ;have KP:w.heap[k]? =some (.deferred (some [])):=p2;have hap: ∀x,S i x→¬S j x:=hS.apart i j _ _ rk IY WJ (.inl rfl);have old: ∀(m:Nat) x,((a.set i HP.emp).set j (kd (k::l))++b)[m]? =some x→(m=i∧x=HP.emp)∨(m=j∧x=kd (k::l))∨(m≠i∧m≠j∧(a++b)[m]? =some x):=by
  intro m x hx;by_cases WK:m<a.length
  ·rw [adz (by simpa using WK)]at hx;by_cases YQ:m=j
   ·subst YQ;rw [List.getElem?_set_self (by simpa using WK)]at hx;cases hx;exact .inr (.inl ⟨rfl,rfl⟩)
   ·rw [adY (Ne.symm YQ)]at hx;by_cases YR:m=i
    ·subst YR;rw [List.getElem?_set_self WK]at hx;cases hx;exact .inl ⟨rfl,rfl⟩
    ·rw [adY (Ne.symm YR)]at hx;exact .inr (.inr ⟨YR,YQ,by rw [adz WK];exact hx⟩)
  ·rw [adA (by simp;omega)]at hx;simp only [List.length_set]at hx;exact .inr (.inr ⟨by omega,by omega,by rw [adA (by omega)];exact hx⟩)
 refine⟨fun m x=>if m=i then False else if m=j then S i x∨S j x else S m x,⟨fun m x hx=>?_,fun m n x y Fy hx hy s8 z h1 h2=>?_⟩⟩
 ·rcases old m x hx with⟨rfl,rfl⟩ | ⟨rfl,rfl⟩ | ⟨h1,h2,h3⟩
  ·simp only [if_true];exact⟨fun _ h=>h,fun _ h=>h.elim⟩
  ·simp only [Ne.symm rk,if_false,if_true];refine⟨⟨fun x=>?_,?_,fun b hb=>?_⟩,fun x hx=>hx.elim (p3 x) (q4 x)⟩
   ·simp only [p1,q1,adW]
   ·exact List.nodup_cons.2 ⟨fun hk=>hap k ((p1 k).2 rfl) ((q1 k).2 hk),q2⟩
   ·rcases adW.1 hb with rfl | hb
    ·exact KP
    ·exact q3 b hb
  ·simp only [h1,h2,if_false];exact hS.at_ m x h3
 ·rcases old m x hx with⟨rfl,rfl⟩ | ⟨rfl,rfl⟩ | ⟨h3,h4,h5⟩
  ·simp only [if_true]at h1
  ·simp only [Ne.symm rk,if_false,if_true]at h1;rcases old n y hy with⟨rfl,rfl⟩ | ⟨rfl,rfl⟩ | ⟨h6,h7,h8⟩
   ·simp only [if_true]at h2
   ·exact Fy rfl
   ·simp only [h6,h7,if_false]at h2;exact h1.elim (fun h1=>hS.apart i n _ _ (Ne.symm h6) IY h8 (.inl rfl) z h1 h2) (fun h1=>hS.apart m n _ _ (Ne.symm h7) WJ h8 (.inl rfl) z h1 h2)
  ·simp only [h3,h4,if_false]at h1;rcases old n y hy with⟨rfl,rfl⟩ | ⟨rfl,rfl⟩ | ⟨h6,h7,h8⟩
   ·simp only [if_true]at h2
   ·simp only [Ne.symm rk,if_false,if_true]at h2;exact h2.elim (fun h2=>hS.apart m i _ _ h3 h5 IY (.inr rfl) z h1 h2) (fun h2=>hS.apart m n _ _ h4 h5 WJ (.inr rfl) z h1 h2)
   ·simp only [h6,h7,if_false]at h2;exact hS.apart m n _ _ Fy h5 h8 s8 z h1 h2
theorem KD{s:Nat}{v x:Value}{n:E}{p:Part}{cs:List Value}(h:k9 ρ s v x n p)(hv:World.views w v (n.den ρ 0).toNat cs):
  World.views w x (p.len.den ρ 0).toNat ((cs.drop ((p.lo.den ρ 0).toNat*s)).take ((p.len.den ρ 0).toNat*s)):=by
 obtain⟨h1,h2,h3,a,c,k,rfl,hc,rfl,hk⟩:=h;obtain⟨a',m,c',he,rfl,OQ,ke,hr⟩:=hv;cases he;have JE:(p.lo.den ρ 0).toNat+(p.len.den ρ 0).toNat≤((p.mx.map fun m=>m.den ρ 0).map ag).getD c∨(p.len.den ρ 0).toNat=0:=by
  cases hm:(p.mx.map fun m=>m.den ρ 0)with
  | none=>simp only [Option.map_none,Option.getD_none];omega
  | some m=>have:=h3 m hm;simp only [Option.map_some,aee];omega
 refine⟨_,_,_,rfl,rfl,by omega,?_,?_⟩
 ·intro hn;cases a with
  | none=>have:=ke rfl;omega
  | some a=>cases hn
 ·intro ad oC;rw [adw]at oC;obtain⟨a0,rfl,rfl⟩:=oC;obtain⟨hs,kZ⟩:=hr a0 rfl;refine⟨fun _=>Kz _ _ (hs (by omega)),fun j u hu=>?_⟩;rw [List.getElem?_take]at hu;split at hu
  ·rename_i hj;have hN:(p.len.den ρ 0).toNat≠0:=by intro h;rw [h,Nat.zero_mul]at hj;omega
   rw [List.getElem?_drop]at hu;rw [hk (.inl (by omega)),c9];exact kZ _ _ hu
  ·cases hu
theorem KE{s:Nat}{v x:Value}{n:E}{p:Part}(h:k9 ρ s v x n p):x.ownBlock=v.ownBlock:=by
 obtain⟨h1,h2,h3,a,c,k,rfl,hc,rfl,hk⟩:=h;cases a with
 | none=>rfl
 | some a=>
  simp only [Option.map_some,Value.ownBlock,Addr.add];split<;>rfl
theorem iD{st cT:St}{x:SV}{md:Bool}{wr:yV}(hg:yW st x md=some (cT,wr))(h:HW Fs w0 st ρ w):
  ∃vcs iF,wr= .cut vcs∧((∀b∈vcs,b.prop ρ)→HW Fs w0 cT (ρ.fF ⟨x.val ρ,iF⟩) w)∧cT.fr=st.fr∧cT.nt=st.nt∧cT.fn=st.fn∧cT.aX={st.aX with v:=st.aX.v+1}∧
   ∃j ZW v0 t s n aH ck,st.hp[j]? =some (.bu ZW v0 t s n aH)∧cT.hp=st.hp.set j ck:=by
 unfold yW at hg;split at hg
 ·rename_i r hr;split at hg
  ·rename_i aH dP;split at hg
   ·rename_i hc;obtain⟨hw,Hq,jT,vW⟩:=hc;cases hg;have iF:(x.val ρ).oneCell'=true:=by
     have nr:=ρ.ok;cases x with
     | vv i=>exact nr.Ze i
     | jP v cs s=>exact mf _ _ _ _ (ρ.vv.getD v V1.nil).one
     | _=>simp [eZ]at hr
    obtain⟨S,hS⟩:=h.own;have cJ:Reads st.hp ρ w S [r.j]:=by
     intro j _ ck hj;refine(hS.at_ j (ck.den ρ) ?_).1;rw [adz (by simpa using (adu.1 hj).1),List.getElem?_map,hj];rfl
    have hj:st.hp[r.j]? =some (.bu r.md r.v r.t r.s r.n r.aH):=by
     unfold eZ at hr;split at hr
     ·split at hr
      ·rename_i hf;cases hr;obtain⟨hj,dD⟩:=cK hf;simp only [Ck.lI,beq_iff_eq]at dD;subst dD;exact hj
      ·cases hr
     ·split at hr
      ·rename_i hf;split at hr
       ·rename_i ZS;cases hr;obtain⟨hj,dD⟩:=cK hf;simp only [Ck.lI,beq_iff_eq]at dD;subst dD;exact hj
       ·cases hr
      ·cases hr
     ·cases hr
    refine⟨_,iF,rfl,fun bV=>?_,rfl,rfl,rfl,rfl,r.j,_,_,_,_,_,_,_,hj,rfl⟩;obtain⟨v1,v2⟩:=bB bV;have v2:=a_ v2;simp only [E.den]at v2;obtain⟨_,dz⟩:=ek hr cJ v1;have hle:=Env.jf ρ ⟨x.val ρ,iF⟩;have dQ:=Env.Le.agree h.lens hle;have dF:st.aX.le {st.aX with v:=st.aX.v+1}:=by constructor<;>simp
    have VY:=cJ r.j (by simp) _ hj;refine⟨h.lens.fF _,cq dF h.j9,?_,er dF h.mH,fun b hb=>(BE.fL dQ (adt.1 h.mH b hb)).1 (h.kn b hb),?_,h.same,cP dF h.kP⟩
    ·refine adt.2 fun q hq=>?_
     rcases ad6 hq with hq | rfl
     ·exact Ck.bj dF (adt.1 h.fy q hq)
     ·simp only [Ck.sc,ai,adK];exact⟨⟨Nat.lt_succ_self _,E.bj dF jT⟩,iu dF vW⟩
    ·simp only [List.map_set];have Hw:st.hp.map (Ck.den (ρ.fF ⟨x.val ρ,iF⟩))=st.hp.map (Ck.den ρ):=(jA dQ h.fy).symm;rw [Hw];have ye:(Ck.bu md st.aX.v r.t r.s r.p.len aH).den (ρ.fF ⟨x.val ρ,iF⟩)=au md r.t r.s (x.val ρ) (r.p.len.den ρ 0).toNat (aN ρ (r.p.len.den ρ 0).toNat aH):=by
      simp only [Ck.den,dB ρ _ h.lens.v];rw [←E.bK dQ jT,←so dQ vW]
     rw [ye];obtain⟨e1,e2⟩:=iT dz.lo dP;have h2:=dz.hi;have h1:=dz.lo;have eO:((aN ρ (r.n.den ρ 0).toNat r.aH).drop ((r.p.lo.den ρ 0).toNat*r.s)).take ((r.p.len.den ρ 0).toNat*r.s)=aN ρ (r.p.len.den ρ 0).toNat aH:=by
      rw [cg,hw,sf (cY ρ r.aH) _ _ _ (by omega),cg];exact cy fun i _=>(e2 i).symm
     refine bG.weaken hS r.j _ _ (by rw [List.getElem?_map,hj];rfl) (fun s8=>Hq s8) (fun k=>(x.val ρ).ownBlock=some k∧(md=true∨0<(r.p.len.den ρ 0).toNat)) (fun k hk=>?_) ⟨?_,fun k=>Iff.rfl⟩
     ·rw [KE dz]at hk;refine(VY.2 k).2 ⟨hk.1,hk.2.imp (fun h=>Hq h) fun h=>?_⟩;omega
     ·cases md with
      | true=>
       simp only [if_true];have cr:=VY.1;rw [Hq rfl]at cr;simp only [if_true]at cr;have:=(vF dz v2 cr).1;rw [eO]at this;exact this
      | false=>
       simp only [Bool.false_eq_true,if_false];have:=KD dz (tU VY).1;rw [eO]at this;refine⟨?_,this⟩;rw [cZ,e1,←hw]
   ·cases hg
  ·cases hg
 ·cases hg
theorem NB{L:Nat→LC}: ∀{vcs:List BE} {f:F} {ρ:Env},VC P ax (Yx vcs f) ρ L→(∀b∈vcs,b.prop ρ)∧VC P ax f ρ L
 | [],f,ρ,h=>⟨by simp,h⟩
 | b::r,f,ρ,h=>by
  obtain⟨h1,h2⟩:=h;obtain⟨h3,h4⟩:=NB (h2 h1);exact⟨fun c hc=>(adW.1 hc).elim (fun e=>e▸h1) (h3 c),h4⟩
theorem y6(hp:List Ck)(i j:Nat): ∃σ:Nat→Nat,(∀a b,σ a=σ b→a=b)∧(∀k,k<hp.length→σ k<hp.length)∧(∀k,hp.length≤k→σ k=k)∧∀k,(swapAt hp i j)[k]? =hp[σ k]? :=by
 unfold swapAt;split
 ·rename_i d c hi hj;have li:=(adu.1 hi).1;have lj:=(adu.1 hj).1;refine⟨fun k=>if k=i then j else if k=j then i else k,fun a b=>?_,fun k hk=>?_,fun k hk=>?_,fun k=>?_⟩
  ·simp only;split<;>split<;>(try split)<;>(try split)<;>omega
  ·simp only;split
   ·exact lj
   ·split
    ·exact li
    ·exact hk
  ·simp only;rw [if_neg (by omega),if_neg (by omega)]
  ·simp only [List.getElem?_set,List.length_set];by_cases h1:k=i
   ·subst h1;by_cases h2:j=k
    ·subst h2;simp [li];exact(adu.1 hi).2.symm
    ·rw [if_neg h2,if_pos rfl,if_pos rfl,if_pos li,hj]
   ·by_cases h2:k=j
    ·subst h2;rw [if_pos rfl,if_pos lj,if_neg h1,if_pos rfl,hi]
    ·rw [if_neg (fun e=>h2 e.symm),if_neg (fun e=>h1 e.symm),if_neg h1,if_neg h2]
 ·exact⟨fun k=>k,fun _ _ h=>h,fun _ h=>h,fun _ _=>rfl,fun _=>rfl⟩
theorem y7(hp:List Ck)(i j:Nat):(swapAt hp i j).length=hp.length:=by
 unfold swapAt;split
 ·simp
 ·rfl
theorem NC{hp:List Ck}{i j:Nat}{p:Ck→Bool}(h:hp.all p=true):(swapAt hp i j).all p=true:=by
 obtain⟨σ,_,_,_,hg⟩:=y6 hp i j;rw [adt]at h ⊢;intro x hx;obtain⟨k,hk⟩:=List.getElem?_of_mem hx;rw [hg]at hk;exact h x (ad3 hk)
theorem ND{hp:List Ck}{i j:Nat}{ρ:Env}{Fs:List HP}{w:World}(h:bG (hp.map (Ck.den ρ)++Fs) w):bG ((swapAt hp i j).map (Ck.den ρ)++Fs) w:=by
 obtain⟨σ,h1,h2,h3,h4⟩:=y6 hp i j;refine h.ss (fun k=>some (σ k)) (fun k x hx=> .inr ⟨σ k,rfl,?_⟩) (fun a b c ha hb _ _=>h1 a b ?_)
 ·by_cases hk:k<hp.length
  ·rw [adz (by rw [List.length_map,y7];exact hk),List.getElem?_map,h4]at hx;rw [adz (by rw [List.length_map];exact h2 k hk),List.getElem?_map];exact hx
  ·rw [adA (by rw [List.length_map,y7];omega),List.length_map,y7]at hx;rw [h3 k (by omega),adA (by rw [List.length_map];omega),List.length_map];exact hx
 ·rw [adv]at ha hb;rw [ha,hb]
theorem FF{T:List TI}{st cT:St}{x:qO}{wr:yV}{L:Nat→LC}{f:F}(hg:dy T st x=some (cT,wr))(h:HW Fs w0 st ρ w)(ha:HA st.fr st.nt ρ a)(hv:VC P ax (fj [wr] f) ρ L):
  ∃bE,Env.Le ρ bE∧HW Fs w0 cT bE w∧HA cT.fr cT.nt bE a∧cT.fn=st.fn∧VC P ax f bE L:=by
 cases wr with
 | nil=>
  obtain⟨g1,g2,g3,g4⟩:=KC hg h ha;exact⟨_,Env.jf _ _,g1,g2,g4,hv⟩
 | same=>
  simp only [fj]at hv;cases x with
  | slot s t=>
   simp only [dy]at hg;split at hg
   ·rw [adw]at hg;obtain⟨_,_,he⟩:=hg;cases he
   ·cases hg
  | cell i j t=>
   simp only [dy]at hg;split at hg
   ·split at hg
    ·rw [adw]at hg;obtain⟨_,_,he⟩:=hg;cases he
    ·cases hg
   ·cases hg
  | cut s md=>
   simp only [dy]at hg;split at hg
   ·rw [adw]at hg;obtain⟨y,hy,he⟩:=hg;obtain⟨_,_,hw,_⟩:=iD (wr:=y.2) (cT:=y.1) hy h;simp only [ad9]at he;rw [he.2]at hw;cases hw
   ·cases hg
  | own s t=>
   simp only [dy]at hg;split at hg
   ·rw [adw]at hg;obtain⟨y,hy,he⟩:=hg;obtain⟨_,_,hw,_⟩:=lZ (wr:=y.2) (cT:=y.1) hy h;simp only [ad9]at he;rw [he.2]at hw;cases hw
   ·cases hg
  | sU i j md=>
   simp only [dy]at hg;split at hg
   ·split at hg
    ·split at hg
     ·rename_i s1 TM hy;obtain⟨_,_,hw,_⟩:=iD hy h;split at hg
      ·split at hg
       ·simp only [adv,ad9]at hg;rw [hg.2]at hw;cases hw
       ·cases hg
      ·cases hg
     ·cases hg
    ·cases hg
   ·cases hg
  | marks=>simp [dy]at hg
  | mark=>
   simp only [dy]at hg;split at hg
   ·split at hg
    ·simp at hg
    ·cases hg
   ·simp only [adv,ad9,and_true]at hg;subst hg;exact⟨ρ,Env.Le.refl _,h,ha,rfl,hv⟩
   ·cases hg
  | swap s i=>
   simp only [dy]at hg;split at hg
   ·simp only [adv,ad9,and_true]at hg;subst hg;exact⟨ρ,Env.Le.refl _,⟨h.lens,h.j9,NC h.fy,h.mH,h.kn,ND h.own,h.same,h.kP⟩,ha,rfl,hv⟩
   ·cases hg
 | ky=>
  simp only [fj,VC]at hv;cases x with
  | slot s t=>
   simp only [dy]at hg;split at hg
   ·rw [adw]at hg;obtain⟨_,_,he⟩:=hg;cases he
   ·cases hg
  | cell i j t=>
   simp only [dy]at hg;split at hg
   ·split at hg
    ·rw [adw]at hg;obtain⟨_,_,he⟩:=hg;cases he
    ·cases hg
   ·cases hg
  | cut s md=>
   simp only [dy]at hg;split at hg
   ·rw [adw]at hg;obtain⟨y,hy,he⟩:=hg;obtain⟨_,_,hw,_⟩:=iD (wr:=y.2) (cT:=y.1) hy h;simp only [ad9]at he;rw [he.2]at hw;cases hw
   ·cases hg
  | own s t=>
   simp only [dy]at hg;split at hg
   ·rw [adw]at hg;obtain⟨y,hy,he⟩:=hg;obtain⟨_,_,hw,_⟩:=lZ (wr:=y.2) (cT:=y.1) hy h;simp only [ad9]at he;rw [he.2]at hw;cases hw
   ·cases hg
  | sU i j md=>
   simp only [dy]at hg;split at hg
   ·split at hg
    ·split at hg
     ·rename_i s1 TM hy;obtain⟨_,_,hw,_⟩:=iD hy h;split at hg
      ·split at hg
       ·simp only [adv,ad9]at hg;rw [hg.2]at hw;cases hw
       ·cases hg
      ·cases hg
     ·cases hg
    ·cases hg
   ·cases hg
  | marks=>
   simp only [dy,adv,ad9,and_true]at hg;subst hg;have hle:=Env.CT ρ (nD []);have dQ:=Env.Le.agree h.lens hle;have dF:st.aX.le {st.aX with b:=st.aX.b+1}:=by constructor<;>simp
   have hb:=ia ρ (nD []) h.lens.b;refine⟨_,hle,⟨h.lens.lC _,cq dF h.j9,?_,er dF h.mH,fun b hb=>(BE.fL dQ (adt.1 h.mH b hb)).1 (h.kn b hb),?_,h.same,?_⟩,?_,rfl,hv (nD [])⟩
   ·rw [List.all_append,ai];exact⟨g9 dF h.fy,by simp [Ck.sc]⟩
   ·rw [List.map_append];refine bG.add (h.y5 hle) _ (fun _=>False) (Nat.le_refl _) (fun _ _=>rfl) ?_ (fun _ hk=>hk.elim);simp only [Ck.den,hb,nE];exact⟨by simp,by simp,by simp⟩
   ·rw [List.all_cons,ai];exact⟨by simp [MK.sc],cP dF h.kP⟩
   ·have tQ:=ha.more h.j9 h.kP dQ;refine⟨?_,tQ.size,tQ.aV⟩;rw [tQ.defers];simp only [marks,MK.blocks,List.flatMap_cons,hb,nE,List.nil_append]
  | mark=>
   simp only [dy]at hg;split at hg;rotate_left
   ·simp at hg
   ·cases hg
   rename_i b c ds KW;split at hg;rotate_left
   ·cases hg
   rename_i i j hi hj;simp only [adv,ad9,and_true]at hg;subst hg;have mF:st.hp[i]? =some (.JH b):=by
    rw [List.findIdx?_eq_some_iff_getElem]at hi;obtain⟨bP,hd,_⟩:=hi;cases hc:st.hp[i]with
    | JH b'=>
     rw [hc]at hd;simp only [Ck.Ba,beq_iff_eq]at hd;subst hd;rw [ad8 bP,hc]
    | _=>rw [hc]at hd;simp [Ck.Ba]at hd
   have kz:st.hp[j]? =some (.qu c):=by
    rw [List.findIdx?_eq_some_iff_getElem]at hj;obtain⟨bP,hd,_⟩:=hj;cases hc:st.hp[j]with
    | qu b'=>
     rw [hc]at hd;simp only [Ck.uq,beq_iff_eq]at hd;subst hd;rw [ad8 bP,hc]
    | _=>rw [hc]at hd;simp [Ck.uq]at hd
   have Rr:=h.kP;rw [KW]at Rr;simp only [List.all_cons,ai,MK.sc,adK]at Rr;generalize hl:ρ.bv.getD b 0::oS (ρ.bv.getD c 0)=l;have hle:=Env.CT ρ (nD l);have dQ:=Env.Le.agree h.lens hle;have dF:st.aX.le {st.aX with b:=st.aX.b+1}:=by constructor<;>simp
   have hb:=ia ρ (nD l) h.lens.b;refine⟨_,hle,⟨h.lens.lC _,cq dF h.j9,?_,er dF h.mH,fun b hb=>(BE.fL dQ (adt.1 h.mH b hb)).1 (h.kn b hb),?_,h.same,?_⟩,?_,rfl,hv (nD l)⟩
   ·refine adt.2 fun q hq=>?_
    rcases ad6 hq with hq | rfl
    ·rcases ad6 hq with hq | rfl
     ·exact Ck.bj dF (adt.1 h.fy q hq)
     ·rfl
    ·simp [Ck.sc]
   ·have ho:=h.y5 hle;rw [List.map_set,List.map_set];have e1:(st.hp.map (Ck.den (ρ.lC (nD l))))[i]? =some (xj (ρ.bv.getD b 0)):=by
     rw [List.getElem?_map,mF,Option.map_some,Ck.den,←dQ.b b Rr.1]
    have e2:(st.hp.map (Ck.den (ρ.lC (nD l))))[j]? =some (kd (oS (ρ.bv.getD c 0))):=by
     rw [List.getElem?_map,kz,Option.map_some,Ck.den,←dQ.b c Rr.2.1]
    have:=ho.FE e1 e2 (by rintro rfl;rw [mF]at kz;cases kz);rw [hl]at this;rw [show(Ck.qu st.aX.b).den (ρ.lC (nD l))=kd l by simp only [Ck.den,hb,nE]];exact this
   ·rw [List.all_cons,ai];exact⟨by simp [MK.sc],cP dF Rr.2.2⟩
   ·have tQ:=ha.more h.j9 h.kP dQ;refine⟨?_,tQ.size,tQ.aV⟩;rw [ha.defers,KW];rw [show marks ρ (.one b:: .many c::ds)=l.map (fun b=>{target:= .collected b,args:= #[]})++marks ρ ds by simp [marks,MK.blocks,←hl],sD dQ Rr.2.2];simp only [marks,MK.blocks,List.flatMap_cons,hb,nE,List.map_append]
  | swap s i=>
   simp only [dy]at hg;split at hg
   ·simp at hg
   ·cases hg
 | cut vcs=>
  simp only [fj]at hv;obtain⟨bV,hv⟩:=NB hv;simp only [VC]at hv;cases x with
  | slot s t=>
   simp only [dy]at hg;split at hg
   ·rw [adw]at hg;obtain⟨_,_,he⟩:=hg;cases he
   ·cases hg
  | cell i j t=>
   simp only [dy]at hg;split at hg
   ·split at hg
    ·rw [adw]at hg;obtain⟨_,_,he⟩:=hg;cases he
    ·cases hg
   ·cases hg
  | cut s md=>
   simp only [dy]at hg;split at hg
   ·rename_i x hl;rw [adw]at hg;obtain⟨⟨s1,TM⟩,hy,he⟩:=hg;cases he;obtain⟨VZ,iF,s8,YS,e1,e2,e3,e4,_⟩:=iD hy h;cases s8;have h1:=YS bV;have hle:=Env.jf ρ ⟨x.val ρ,iF⟩;have dQ:=Env.Le.agree h.lens hle;have tQ:=ha.more h.j9 h.kP dQ;have uU:(SV.vv st.aX.v).sc s1.aX=true:=by rw [e4];simp [SV.sc]
    refine⟨_,hle,h1.put uU,⟨by rw [(dG _ _ _).2.2.2.1,e2];exact tQ.defers,by rw [(dG _ _ _).2.2.2.1,e2];exact ha.size,fun q v hq=>?_⟩,by rw [(dG _ _ _).2.2.2.2,e3],hv _⟩;simp only [St.put]at hq;unfold look at hq;split at hq
    ·rename_i I1;rw [beq_iff_eq]at I1;subst I1;cases hq;rw [ha.aV _ _ hl];simp only [SV.val,dB ρ _ h.lens.v]
    ·rename_i I1;rw [lX s _ q (fun e=>I1 (by simp [e])),e1]at hq;exact tQ.aV q v hq
   ·cases hg
  | own s t=>
   simp only [dy]at hg;split at hg
   ·rename_i x hl;rw [adw]at hg;obtain⟨⟨s1,TM⟩,hy,he⟩:=hg;cases he;obtain⟨VZ,iF,s8,h1,e1,e2,e3,e4⟩:=lZ hy h;cases s8;have hle:=Env.jf ρ ⟨x.val ρ,iF⟩;have dQ:=Env.Le.agree h.lens hle;have tQ:=ha.more h.j9 h.kP dQ;have uU:(SV.vv st.aX.v).sc s1.aX=true:=by rw [e4];simp [SV.sc]
    refine⟨_,hle,h1.put uU,⟨by rw [(dG _ _ _).2.2.2.1,e2];exact tQ.defers,by rw [(dG _ _ _).2.2.2.1,e2];exact ha.size,fun q v hq=>?_⟩,by rw [(dG _ _ _).2.2.2.2,e3],hv _⟩;simp only [St.put]at hq;unfold look at hq;split at hq
    ·rename_i I1;rw [beq_iff_eq]at I1;subst I1;cases hq;rw [ha.aV _ _ hl];simp only [SV.val,dB ρ _ h.lens.v]
    ·rename_i I1;rw [lX s _ q (fun e=>I1 (by simp [e])),e1]at hq;exact tQ.aV q v hq
   ·cases hg
  | sU i j md=>
   simp only [dy]at hg;split at hg
   ·rename_i b wr cs hi;split at hg
    ·rename_i x hj;split at hg
     ·rename_i s1 TM hy;obtain⟨VZ,iF,s8,YS,e1,e2,e3,e4,jj,ZW,v0,t0,s0,n0,Um,ck,e5,e6⟩:=iD hy h;split at hg
      ·rename_i b' w' zh mF;split at hg
       ·cases hg;cases s8;have h1:=YS bV;have hle:=Env.jf ρ ⟨x.val ρ,iF⟩;have dQ:=Env.Le.agree h.lens hle;have tQ:=ha.more h.j9 h.kP dQ;have uU:(SV.vv st.aX.v).sc s1.aX=true:=by rw [e4];simp [SV.sc]
        have dR:jj≠i:=by
         intro e;subst e;rw [hi]at e5;cases e5
        have FP:s1.hp[i]? =some (.row b wr cs):=by
         rw [e6,adY dR];exact hi
        have Hx:=adt.1 h1.fy _ (ad3 FP);simp only [Ck.sc,ai]at Hx;have Ge:x.sc st.aX=true:=by
         have:=adt.1 h.fy _ (ad3 hi);simp only [Ck.sc,ai]at this;have key: ∀{l:List SV} {k:Nat} {y:SV},SV.oE st.aX l=true→l[k]? =some y→y.sc st.aX=true:=by
          intro l
          induction l with
          | nil=>intro k y _ hy;simp at hy
          | cons z r ih=>
           intro k y hl hy;simp only [SV.oE,ai]at hl;cases k with
           | zero=>simp at hy;subst hy;exact hl.1
           | succ k=>exact ih hl.2 (by simpa using hy)
         exact key this.2 hj
        have C9:x.plain=true:=by
         unfold yW at hy;split at hy
         ·rename_i r hr;cases x<;>first | rfl | simp [eZ]at hr
         ·cases hy
        have ye:(Ck.row b wr (cs.set j (.vv st.aX.v))).den (ρ.fF ⟨x.val ρ,iF⟩)=(Ck.row b wr cs).den (ρ.fF ⟨x.val ρ,iF⟩):=by
         simp only [Ck.den];rw [rG hj];rw [fR _ C9,←(SV.tM dQ Ge).1];simp only [SV.cells,dB ρ _ h.lens.v]
        have Hw:(s1.hp.set i (.row b wr (cs.set j (.vv st.aX.v)))).map (Ck.den (ρ.fF ⟨x.val ρ,iF⟩))=s1.hp.map (Ck.den (ρ.fF ⟨x.val ρ,iF⟩)):=by
         rw [List.map_set,ye];apply List.ext_getElem?;intro q;rw [List.getElem?_set];split
         ·rename_i hq;subst hq;split
          ·rw [List.getElem?_map,FP];rfl
          ·rename_i bP;rw [aef (by omega)]
         ·rfl
        refine⟨_,hle,⟨h1.lens,h1.j9,?_,h1.mH,h1.kn,by rw [Hw];exact h1.own,h1.same,h1.kP⟩,⟨by rw [e2];exact tQ.defers,by rw [e2];exact ha.size,by rw [e1];exact tQ.aV⟩,e3,hv _⟩;refine adt.2 fun q hq=>?_
        rcases ad6 hq with hq | rfl
        ·exact adt.1 h1.fy q hq
        ·simp only [Ck.sc,ai];exact⟨Hx.1,CU Hx.2 uU⟩
       ·cases hg
      ·cases hg
     ·cases hg
    ·cases hg
   ·cases hg
  | marks=>simp [dy]at hg
  | mark=>
   simp only [dy]at hg;split at hg
   ·split at hg
    ·simp at hg
    ·cases hg
   ·simp at hg
   ·cases hg
  | swap s i=>
   simp only [dy]at hg;split at hg
   ·simp at hg
   ·cases hg
theorem CV(x:yV)(r:List yV)(f:F):fj (x::r) f=fj [x] (fj r f):=by cases x<;>rfl
theorem jg{T:List TI}{L:Nat→LC}{f:F}: ∀{xs:List qO} {st cT:St} {n:List yV} {ρ:Env},rF T st xs=some (cT,n)→HW Fs w0 st ρ w→HA st.fr st.nt ρ a→VC P ax (fj n f) ρ L→
  ∃bE,Env.Le ρ bE∧HW Fs w0 cT bE w∧HA cT.fr cT.nt bE a∧cT.fn=st.fn∧VC P ax f bE L
 | [],st,cT,n,ρ,h,hw,ha,hv=>by
  simp only [rF,adv,ad9]at h;obtain⟨rfl,rfl⟩:=h;exact⟨ρ,Env.Le.refl _,hw,ha,rfl,hv⟩
 | x::xs,st,cT,n,ρ,h,hw,ha,hv=>by
  unfold rF at h;split at h
  ·rename_i s1 h1;split at h
   ·rename_i s2 k h2;simp only [adv,ad9]at h;obtain⟨rfl,rfl⟩:=h;rw [CV]at hv;obtain⟨qc,g0,g1,g2,g4,g5⟩:=FF h1 hw ha hv;obtain⟨bE,q1,q2,q3,q5,q6⟩:=jg h2 g1 g2 g5;exact⟨bE,g0.trans q1,q2,q3,q5.trans g4,q6⟩
   ·cases h
  ·cases h
end
end Go.RX
