/- Executor. -/
import Derived.Test.YtmgbbbmdbpbeeaaGreatM10
import Derived.Sort.LoopGhostIn
open Array renaming getD_eq_getD_getElem? → ai7
open Bool renaming and_eq_true → ai
open Go.Sem renaming run_bind → ai2, run_pure → ajd
open List renaming all_eq_true → aiM, getElem?_append_left → aiR, getElem?_eq_some_iff → aiN, map_congr_left → ajq, map_cons → ajb, mem_cons → ai0, mem_filter → aja
open Nat renaming blt_eq → ai3, le_succ → ajC, lt_of_lt_of_le → ai1
open Option renaming getD_some → ajh, map_eq_some_iff → aiO
namespace Go.RX
structure cz.le (c d:cz):Prop where
 b:c.b≤d.b
 v:c.v≤d.v
 i:c.i≤d.i
 a:c.a≤d.a
 bo:c.bo≤d.bo
 p:c.p≤d.p
 r:c.r≤d.r
theorem cz.j4(c d:cz):c.le (c.add d):=by constructor<;>simp [cz.add]
theorem cz.le_refl(c:cz):c.le c:=by constructor<;>exact Nat.le_refl _
section
variable {c d:cz}
theorem E.bq(h:c.le d){e:E}(hs:e.sc c=true):e.sc d=true:=by
 induction e with
 | lit n=>rfl
 | var i=>simp only [E.sc,ai3]at*;exact ai1 hs h.i
 | aN i=>simp only [E.sc,ai3]at*;exact ai1 hs h.a
 | P1 a i mg G_=>simp only [E.sc,ai]at*;exact⟨mg hs.1,G_ hs.2⟩
 | bin o k a b mg sE=>simp only [E.sc,ai]at*;exact⟨mg hs.1,sE hs.2⟩
 | wrap k a ih=>simp only [E.sc]at*;exact ih hs
 | sD a i v mg G_ Z1=>simp only [E.sc,ai]at*;exact⟨⟨mg hs.1.1,G_ hs.1.2⟩,Z1 hs.2⟩
 | shift a o mg UF=>simp only [E.sc,ai]at*;exact⟨mg hs.1,UF hs.2⟩
 | rl a o n b mg UF ihn sE=>simp only [E.sc,ai]at*;exact⟨⟨⟨mg hs.1.1.1,UF hs.1.1.2⟩,ihn hs.1.2⟩,sE hs.2⟩
 | kc n a ih=>simp only [E.sc]at*;exact ih hs
 | oZ b=>simp only [E.sc,ai3]at*;exact ai1 hs h.b
 | o3 l=>rfl
 | Qn a i mg G_=>simp only [E.sc,ai]at*;exact⟨mg hs.1,G_ hs.2⟩
 | po a i s mg G_ Z2=>simp only [E.sc,ai]at*;exact⟨⟨mg hs.1.1,G_ hs.1.2⟩,Z2 hs.2⟩
 | S9 s ih=>simp only [E.sc]at*;exact ih hs
theorem BE.bq(h:c.le d){b:BE}(hs:b.sc c=true):b.sc d=true:=by
 induction b with
 | lit n=>rfl
 | var i=>simp only [BE.sc,ai3]at*;exact ai1 hs h.bo
 | eq a b=>simp only [BE.sc,ai]at*;exact⟨E.bq h hs.1,E.bq h hs.2⟩
 | lt a b=>simp only [BE.sc,ai]at*;exact⟨E.bq h hs.1,E.bq h hs.2⟩
 | le a b=>simp only [BE.sc,ai]at*;exact⟨E.bq h hs.1,E.bq h hs.2⟩
 | nz a=>simp only [BE.sc]at*;exact E.bq h hs
 | S_ n a b=>simp only [BE.sc,ai]at*;exact⟨E.bq h hs.1,E.bq h hs.2⟩
 | not a ih=>simp only [BE.sc]at*;exact ih hs
 | and a b mg sE=>simp only [BE.sc,ai]at*;exact⟨mg hs.1,sE hs.2⟩
 | or a b mg sE=>simp only [BE.sc,ai]at*;exact⟨mg hs.1,sE hs.2⟩
 | ite x t e Xc Uk Ul=>simp only [BE.sc,ai]at*;exact⟨⟨Xc hs.1.1,Uk hs.1.2⟩,Ul hs.2⟩
 | seq a b=>simp only [BE.sc,ai]at*;exact⟨E.bq h hs.1,E.bq h hs.2⟩
theorem KO(h:c.le d){cs:List Cut}(hs:cs.all (Cut.sc c)=true):cs.all (Cut.sc d)=true:=by
 refine aiM.2 fun k hk=>?_
 have:=aiM.1 hs k hk;simp only [Cut.sc,ai]at this ⊢;refine⟨⟨E.bq h this.1.1,E.bq h this.1.2⟩,?_⟩;cases hm:k.mx with
 | none=>rfl
 | some m=>rw [hm]at this;exact E.bq h this.2
mutual
theorem SV.bq(h:c.le d): ∀{v:SV},v.sc c=true→v.sc d=true
 | .int k e,hs=>by simp only [SV.sc]at*;exact E.bq h hs
 | .bool b,hs=>by simp only [SV.sc]at*;exact BE.bq h hs
 | .gx,_=>rfl
 | .bU,_=>rfl
 | .mh,_=>rfl
 | .sF,_=>rfl
 | .qY,_=>rfl
 | .undef,_=>rfl
 | .ptr b n,hs=>by simp only [SV.sc,ai3]at*;exact ai1 hs h.b
 | .o5 b i s n,hs=>by simp only [SV.sc,ai3,ai]at*;exact⟨ai1 hs.1 h.b,E.bq h hs.2⟩
 | .pv v i s n,hs=>by simp only [SV.sc,ai3,ai]at*;exact⟨ai1 hs.1 h.v,E.bq h hs.2⟩
 | .sl b i s n m,hs=>by simp only [SV.sc,ai3,ai]at*;exact⟨⟨⟨ai1 hs.1.1.1 h.b,E.bq h hs.1.1.2⟩,E.bq h hs.1.2⟩,E.bq h hs.2⟩
 | .vv i,hs=>by simp only [SV.sc,ai3]at*;exact ai1 hs h.v
 | .str l,_=>rfl
 | .fn f jK,hs=>by simp only [SV.sc]at*;exact SV.eM h hs
 | .agg cs,hs=>by simp only [SV.sc]at*;exact SV.eM h hs
 | .b_ k n a,hs=>by simp only [SV.sc]at*;exact E.bq h hs
 | .mu vs,hs=>by simp only [SV.sc]at*;exact SV.eM h hs
 | .opt b v,hs=>by simp only [SV.sc,ai]at*;exact⟨BE.bq h hs.1,SV.bq h hs.2⟩
 | .DE a i,hs=>by simp only [SV.sc]at*;exact E.bq h hs
 | .Kf l,hs=>by simp only [SV.sc,ai3]at*;exact ai1 hs h.b
 | .mp l,hs=>by simp only [SV.sc,ai3]at*;exact ai1 hs h.b
 | .n8 e,hs=>by simp only [SV.sc]at*;exact E.bq h hs
 | .Kg e,hs=>by simp only [SV.sc]at*;exact E.bq h hs
 | .kK e,hs=>by simp only [SV.sc]at*;exact E.bq h hs
 | .MH t k e,hs=>by simp only [SV.sc]at*;exact E.bq h hs
 | .GK b v,hs=>by simp only [SV.sc,ai,ai3]at*;exact⟨BE.bq h hs.1,ai1 hs.2 h.v⟩
 | .kg v cs s,hs=>by simp only [SV.sc,ai3,ai]at*;exact⟨ai1 hs.1 h.v,KO h hs.2⟩
theorem SV.eM(h:c.le d): ∀{l:List SV},SV.o6 c l=true→SV.o6 d l=true
 | [],_=>rfl
 | v::r,hs=>by simp only [SV.o6,ai]at*;exact⟨SV.bq h hs.1,SV.eM h hs.2⟩
end
theorem bR.bq(h:c.le d){k:bR}(hs:k.sc c=true):k.sc d=true:=by
 simp only [bR.sc,ai]at hs ⊢;refine⟨E.bq h hs.1,?_⟩;have h2:=hs.2;unfold CK.sc at h2 ⊢;split
 ·rename_i l hl;rw [hl]at h2;exact aiM.2 fun n hn=>by
   have:=aiM.1 h2 n hn;simp only [ai3]at this ⊢;exact ai1 this h.v
 ·rename_i q v hl;rw [hl]at h2;simp only [ai,ai3]at h2 ⊢;exact⟨E.bq h h2.1,ai1 h2.2 h.v⟩
 ·rfl
theorem iV(h:c.le d){aD:List bR}(hs:aD.all (bR.sc c)=true):aD.all (bR.sc d)=true:=
 aiM.2 fun k hk=>bR.bq h (aiM.1 hs k hk)
theorem Ck.bq(h:c.le d){k:Ck}(hs:k.sc c=true):k.sc d=true:=by
 cases k with
 | emp=>rfl
 | row b w cs=>simp only [Ck.sc,ai3,ai]at*;exact⟨ai1 hs.1 h.b,SV.eM h hs.2⟩
 | bK md v t s n aD=>simp only [Ck.sc,ai3,ai]at*;exact⟨⟨ai1 hs.1.1 h.v,E.bq h hs.1.2⟩,iV h hs.2⟩
 | abs i=>simp only [Ck.sc,ai3]at*;exact ai1 hs h.p
 | kP l r s j=>simp only [Ck.sc,ai,ai3]at*;exact⟨ai1 hs.1 h.b,ai1 hs.2 h.r⟩
 | Ki b=>simp only [Ck.sc,ai3]at*;exact ai1 hs h.b
 | qZ b=>simp only [Ck.sc,ai3]at*;exact ai1 hs h.b
 | map b kl ka va z has aD=>simp only [Ck.sc,ai,ai3]at*;exact⟨⟨⟨ai1 hs.1.1.1 h.b,SV.eM h hs.1.1.2⟩,E.bq h hs.1.2⟩,iV h hs.2⟩
 | Td b l p=>simp only [Ck.sc,ai3]at*;exact ai1 hs h.b
 | IL b t e n a=>simp only [Ck.sc,ai3,ai]at*;exact⟨⟨ai1 hs.1.1 h.b,E.bq h hs.1.2⟩,E.bq h hs.2⟩
 | sJ b kl ka va z es=>simp only [Ck.sc,ai,ai3]at*;exact⟨⟨ai1 hs.1.1 h.b,SV.eM h hs.1.2⟩,aiM.2 fun e he=>SV.eM h (aiM.1 hs.2 e he)⟩
theorem iA(h:c.le d){hp:List Ck}(hs:hp.all (Ck.sc c)=true):hp.all (Ck.sc d)=true:=
 aiM.2 fun k hk=>Ck.bq h (aiM.1 hs k hk)
theorem cr(h:c.le d){fr:List (Nat×SV)}(hs:kZ c fr=true):kZ d fr=true:=
 aiM.2 fun k hk=>SV.bq h (aiM.1 hs k hk)
theorem eN(h:c.le d){l:List BE}(hs:l.all (BE.sc c)=true):l.all (BE.sc d)=true:=
 aiM.2 fun k hk=>BE.bq h (aiM.1 hs k hk)
end
theorem Cn{c:cz}{fr:List (Nat×SV)}(hs:kZ c fr=true){s:Nat}{v:SV}(h:look fr s=some v):v.sc c=true:=by
 induction fr with
 | nil=>cases h
 | cons x r ih=>
  obtain⟨t,u⟩:=x;simp only [kZ,List.all_cons,ai]at hs;unfold look at h;split at h
  ·cases h;exact hs.1
  ·exact ih hs.2 h
theorem cV{c d:cz}(h:c.le d){ds:List MK}(hs:ds.all (MK.sc c)=true):ds.all (MK.sc d)=true:=
 aiM.2 fun k hk=>by
  have:=aiM.1 hs k hk;cases k<;>simp only [MK.sc,ai3]at* <;>exact ai1 this h.b
structure HW (Fs:List HP) (w0:World) (st:St) (ρ:Env) (w:World):Prop where
 lens:fq ρ st.aV
 kI:kZ st.aV st.fr=true
 fU:st.hp.all (Ck.sc st.aV)=true
 nh:st.known.all (BE.sc st.aV)=true
 kn: ∀b∈st.known,b.prop ρ
 own:bz (st.hp.map (Ck.den ρ)++Fs) w
 same:fZ w0 w
 lC:st.nt.ds.all (MK.sc st.aV)=true
noncomputable def MK.blocks(ρ:Env):MK→List Nat
 | .one b=>[ρ.bv.getD b 0]
 | .many b=>pq (ρ.bv.getD b 0)
noncomputable def marks(ρ:Env)(ds:List MK):List Deferred:=(ds.flatMap (MK.blocks ρ)).map fun b=>{target:= .collected b,args:= #[]}
structure HA (fr:List (Nat×SV)) (nt:NT) (ρ:Env) (a:Act):Prop where
 defers:a.defers=marks ρ nt.ds
 size:nt.n≤a.tmps.size
 aO: ∀s v,look fr s=some v→a.tmps.getD s undef=v.val ρ
def resume:Exit→List KI→Option (List KI)
 | .normal,k=>some k
 | .exit id,k=>cX id k
 | .ret,k=>f_ k
 | _,_=>none
section
variable (P:Program) (C:Ctx) (ao:Value→List HP→Prop) (Fs:List HP) (w0:World)
def At(n:Nat)(k:List KI)(I4:Env)(Lb:Nat→LC)(a:Act)(w:World):Prop:=
 ∃m,m<n∧∃st ρ L,Env.Le I4 ρ∧(∀j,j<nl k→L j=Lb j)∧HW Fs w0 st ρ w∧HA st.fr st.nt ρ a∧VC P ao (run C m k st) ρ L
def QK(n:Nat)(k:List KI)(I4:Env)(Lb:Nat→LC)(e:Exit)(a:Act)(w:World):Prop:=
 ∃k',resume e k=some k'∧At P C ao Fs w0 n k' I4 Lb a w
end
theorem gJ: ∀{id:Nat} {k k':List KI},cX id k=some k'→nl k'≤nl k
 | id,[],k',h=>by simp [cX]at h
 | id,.oZ i::k,k',h=>by
  unfold cX at h;split at h
  ·cases h;exact Nat.le_refl _
  ·exact gJ (k:=k) h
 | id,.code _::k,k',h=>gJ (k:=k) h
 | id,.gh _::k,k',h=>gJ (k:=k) h
 | id,.again _::k,k',h=>gJ (k:=k) h
 | id,.ops .. ::k,k',h=>gJ (k:=k) h
 | id,.loop .. ::k,k',h=>Nat.le_trans (gJ (k:=k) h) (ajC _)
 | id,.jn i up nt c0 inc fr hp pre::k,k',h=>by
  simp only [cX]at h;split at h
  ·cases h;exact Nat.le_refl _
  ·exact Nat.le_trans (gJ (k:=k) h) (ajC _)
 | id,.rN .. ::k,k',h=>by simp [cX]at h
 | id,.call .. ::k,k',h=>by simp [cX]at h
 | id,.top .. ::k,k',h=>by simp [cX]at h
 | id,.rf .. ::k,k',h=>by simp [cX]at h
 | id,.begin .. ::k,k',h=>by simp [cX]at h
 | id,.lJ .. ::k,k',h=>by simp [cX]at h
 | id,.round .. ::k,k',h=>by simp only [cX]at h;cases h;exact Nat.le_refl _
theorem iW: ∀{k k':List KI},f_ k=some k'→nl k'≤nl k
 | [],k',h=>by simp [f_]at h
 | .oZ i::k,k',h=>iW (k:=k) h
 | .code _::k,k',h=>iW (k:=k) h
 | .gh _::k,k',h=>iW (k:=k) h
 | .again _::k,k',h=>iW (k:=k) h
 | .ops .. ::k,k',h=>iW (k:=k) h
 | .loop .. ::k,k',h=>Nat.le_trans (iW (k:=k) h) (ajC _)
 | .jn .. ::k,k',h=>Nat.le_trans (iW (k:=k) h) (ajC _)
 | .rN .. ::k,k',h=>by simp [f_]at h
 | .call .. ::k,k',h=>by simp only [f_]at h;cases h;exact Nat.le_refl _
 | .top .. ::k,k',h=>by simp only [f_]at h;cases h;exact Nat.le_refl _
 | .rf .. ::k,k',h=>by simp only [f_]at h;cases h;exact Nat.le_refl _
 | .round .. ::k,k',h=>by simp only [f_]at h;cases h;exact Nat.le_refl _
 | .begin .. ::k,k',h=>by simp [f_]at h
 | .lJ .. ::k,k',h=>by simp [f_]at h
theorem Ba{e:Exit}{k k':List KI}(h:resume e k=some k'):nl k'≤nl k:=by
 cases e with
 | normal=>cases h;exact Nat.le_refl _
 | exit id=>exact gJ h
 | ret=>exact iW h
 | goto l=>cases h
 | panic c=>cases h
 | outgrown=>cases h
section
variable {P:Program} {C:Ctx} {ao:Value→List HP→Prop} {Fs:List HP} {w0:World}
theorem At.mono{n n':Nat}{k:List KI}{ρ bF:Env}{L L':Nat→LC}{a:Act}{w:World}(h:At P C ao Fs w0 n k bF L' a w)(hn:n≤n')(hρ:Env.Le ρ bF)
  (hL: ∀j,j<nl k→L' j=L j):At P C ao Fs w0 n' k ρ L a w:=by
 obtain⟨m,hm,st,r,L2,h1,h2,h3⟩:=h;exact⟨m,ai1 hm hn,st,r,L2,hρ.trans h1,fun j hj=>(h2 j hj).trans (hL j hj),h3⟩
theorem QK.mono{n n':Nat}{k:List KI}{ρ bF:Env}{L L':Nat→LC}{e:Exit}{a:Act}{w:World}(h:QK P C ao Fs w0 n k bF L' e a w)(hn:n≤n')(hρ:Env.Le ρ bF)
  (hL: ∀j,j<nl k→L' j=L j):QK P C ao Fs w0 n' k ρ L e a w:=by
 obtain⟨k',hk,h⟩:=h;exact⟨k',hk,h.mono hn hρ fun j hj=>hL j (ai1 hj (Ba hk))⟩
theorem QK.move{n:Nat}{k k2:List KI}{ρ:Env}{L L2:Nat→LC}{e:Exit}{a:Act}{w:World}(h:QK P C ao Fs w0 n k2 ρ L2 e a w)(hk:resume e k2=resume e k)
  (hL: ∀j,j<nl k→L2 j=L j):QK P C ao Fs w0 n k ρ L e a w:=by
 obtain⟨k',h1,h⟩:=h;rw [hk]at h1;exact⟨k',h1,h.mono (Nat.le_refl _) (Env.Le.refl _) fun j hj=>hL j (ai1 hj (Ba h1))⟩
variable {F:Fence} {n:Nat} {ops:Array Oper}
theorem Oper.yG{o:Oper}{a:Act}{w:World}{K K':Act→World→Prop}{Q Q':Exit→Act→World→Prop}(h: ∀a w,K a w→K' a w)(hq: ∀e a w,Q e a w→Q' e a w)
  (hh:o.wpIn F n P a w K Q):o.wpIn F n P a w K' Q':=by
 unfold Oper.wpIn at*;refine⟨hh.1,?_⟩;have hh:=hh.2;have XP:LetsOut Q→LetsOut Q':=fun⟨a,w,h⟩=>⟨a,w,hq _ _ _ h⟩
 generalize (o.semAt F.round a.eval).run P w=r at*;cases r with
 | ok x w'=>
  cases x<;>simp only [Oper.uponIn]at hh ⊢ <;>
   first
    | exact h _ _ hh
    | exact⟨hh.1,CallsIn.mono hh.2 (fun e XQ he=>by cases e<;>first | exact h _ _ he | exact hq _ _ _ he | exact XP he)⟩
    | exact⟨hh.1,RowsIn.mono hh.2 (fun _ _ he=>h _ _ he)⟩
    | exact⟨hh.1,RoundIn.mono hh.2 (fun e XQ he=>by cases e<;>first | exact h _ _ he | exact hq _ _ _ he | exact XP he)⟩
 | halt x w'=>cases x<;>simp only [Oper.uponIn]at hh ⊢ <;>first | exact hq _ _ _ hh | exact hh
theorem eV{Q Q':Exit→Act→World→Prop}(hq: ∀e a w,Q e a w→Q' e a w): ∀{l:List Oper} {a:Act} {w:World},wpListIn F n P ops Q l a w→wpListIn F n P ops Q' l a w
 | [],a,w,h=>hq _ _ _ h
 | o::r,a,w,h=>by
  unfold wpListIn at*;split
  ·rename_i hw;rw [if_pos hw]at h;exact Oper.yG (fun a w=>eV hq) hq h
  ·rename_i hw;rw [if_neg hw]at h;exact⟨h.1,eV hq h.2⟩
end
section
variable {P:Program} {ρ bF:Env} {a:Act} {w:World} {fr:List (Nat×SV)} {nt:NT}
theorem mI(d:Nat)(fr:List (Nat×SV))(s:Nat)(h:s≠d):look (fr.filter fun x=> !(x.1==d)) s=look fr s:=by
 induction fr with
 | nil=>rfl
 | cons x r ih=>
  obtain⟨t,v⟩:=x;by_cases ht:t=d
  ·subst ht;rw [List.filter_cons_of_neg (by simp),ih]
   conv=>rhs;unfold look
   rw [if_neg (by simp;exact Ne.symm h)]
  ·rw [List.filter_cons_of_pos (by simpa using ht)];unfold look;rw [ih]
theorem HA.put(h:HA fr nt ρ a){d:Option Nat}{v:SV}{u:Value}(hd: ∀x,d=some x→x<nt.n)(hv:u=v.val ρ)(st:St)(Tj:st.fr=fr):
  HA (st.put d v).fr nt ρ (a.put d u):=by
 subst Tj;cases d with
 | none=>exact h
 | some d=>
  have bX:=hd d rfl;refine⟨h.defers,by simpa [Act.put] using h.size,fun s x hs=>?_⟩;simp only [St.put]at hs;unfold look at hs;split at hs
  ·rename_i Mq;rw [beq_iff_eq]at Mq;subst Mq;cases hs;have:=h.size;rw [←hv];simp only [Act.put];rw [ai7,Array.getElem?_setIfInBounds_self_of_lt (by omega)];rfl
  ·rename_i Mq;have dI:s≠d:=fun e=>Mq (by simp [e])
   rw [mI d _ s dI]at hs;have:=h.aO s x hs;rw [←this];simp only [Act.put];rw [ai7,ai7,Array.getElem?_setIfInBounds_ne (Ne.symm dI)]
theorem dL(st:St)(d:Option Nat)(v:SV):(st.put d v).hp=st.hp∧(st.put d v).aV=st.aV∧(st.put d v).known=st.known∧(st.put d v).nt=st.nt∧(st.put d v).fn=st.fn:=by
 cases d<;>exact⟨rfl,rfl,rfl,rfl,rfl⟩
theorem UI{c:cz}{st:St}{d:Option Nat}{v:SV}(h:kZ c st.fr=true)(hv:v.sc c=true):kZ c (st.put d v).fr=true:=by
 cases d with
 | none=>exact h
 | some d=>
  simp only [St.put,kZ,List.all_cons,ai];exact⟨hv,aiM.2 fun x hx=>aiM.1 h x (aja.1 hx).1⟩
variable {Fs:List HP} {w0:World}
theorem HW.put{st:St}(h:HW Fs w0 st ρ w){d:Option Nat}{v:SV}(hv:v.sc st.aV=true):HW Fs w0 (st.put d v) ρ w:=by
 obtain⟨e1,e2,e3,e4,_⟩:=dL st d v;refine⟨by rw [e2];exact h.lens,by rw [e2];exact UI h.kI hv,by rw [e1,e2];exact h.fU,by rw [e2,e3];exact h.nh,by rw [e3];exact h.kn,by rw [e1];exact h.own,h.same,by rw [e2,e4];exact h.lC⟩
theorem tj{c:cz}(eu:fR c ρ bF){ds:List MK}(h:ds.all (MK.sc c)=true):marks ρ ds=marks bF ds:=by
 unfold marks;congr 1;rw [List.flatMap_def,List.flatMap_def];congr 1;refine ajq fun d hd=>?_
 have:=aiM.1 h d hd;cases d<;>simp only [MK.sc,ai3]at this<;>simp only [MK.blocks,eu.b _ this]
theorem HA.more(h:HA fr nt ρ a){c:cz}(iT:kZ c fr=true)(Ts:nt.ds.all (MK.sc c)=true)(eu:fR c ρ bF):HA fr nt bF a:=
 ⟨h.defers.trans (tj eu Ts),h.size,fun s v hs=>by rw [h.aO s v hs];exact(SV.uM eu (Cn iT hs)).1⟩
theorem HA.eval(h:HA fr nt ρ a):sR ρ (look fr) a.eval:=
 ⟨fun s v hs=>h.aO s v hs,fun _=>rfl,fun _=>rfl⟩
theorem SV.QT{c:BE}(hc:c.den ρ=true)(v:SV):(v.GM c).val ρ=v.val ρ:=by
 unfold SV.GM;split
 ·rename_i c' v;split
  ·rename_i he;subst he;rw [SV.val,if_pos hc]
  ·split
   ·split
    ·rename_i he;subst he;simp only [SV.val,BE.den,hc,Bool.true_and]
    ·rfl
   ·rfl
 ·split
  ·rename_i b hb;subst hb;simp only [SV.val,hc,BE.den]
  ·rfl
 ·rfl
theorem SV.Nj{c:BE}(hc:c.den ρ=false)(v:SV):(v.q_ c).val ρ=v.val ρ:=by
 unfold SV.q_;split
 ·rename_i c' v;split
  ·rename_i he;subst he;simp [SV.val,hc]
  ·split
   ·split
    ·rename_i he;subst he;simp [SV.val,BE.den,hc]
    ·rfl
   ·rfl
 ·split
  ·rename_i b hb;subst hb;simp only [SV.val,hc,BE.den]
  ·rfl
 ·rfl
theorem SV.QU{c:BE}{n:cz}{v:SV}(h:v.sc n=true):(v.q_ c).sc n=true:=by
 unfold SV.q_;split
 ·rename_i c' v;split
  ·rfl
  ·split
   ·split
    ·rfl
    ·exact h
   ·exact h
 ·split
  ·rfl
  ·exact h
 ·exact h
theorem SV.UJ{c:BE}{n:cz}{v:SV}(h:v.sc n=true):(v.GM c).sc n=true:=by
 unfold SV.GM;split
 ·rename_i c' v;simp only [SV.sc,ai]at h;split
  ·exact h.2
  ·split
   ·split
    ·have h1:=h.1;simp only [BE.sc,ai]at h1;simp only [SV.sc,ai];exact⟨h1.2,h.2⟩
    ·simp only [SV.sc,ai];exact h
   ·simp only [SV.sc,ai];exact h
 ·split
  ·rfl
  ·exact h
 ·exact h
theorem Ee{f:SV→SV}{fr:List (Nat×SV)}{s:Nat}{v:SV}(h:look (fr.map fun x=>(x.1,f x.2)) s=some v): ∃u,look fr s=some u∧v=f u:=by
 induction fr with
 | nil=>cases h
 | cons x r ih=>
  obtain⟨t,u⟩:=x;have h':(if t==s then some (f u)else look (r.map fun x=>(x.1,f x.2)) s)=some v:=h;show∃u',(if t==s then some u else look r s)=some u'∧v=f u';split at h'
  ·rename_i ht;cases h';exact⟨u,by rw [if_pos ht],rfl⟩
  ·rename_i ht;obtain⟨u',h1,h2⟩:=ih h';exact⟨u',by rw [if_neg ht];exact h1,h2⟩
theorem HA.GM{st:St}(h:HA st.fr nt ρ a){c:BE}(hc:c.den ρ=true):HA (st.GM c).fr nt ρ a:=
 ⟨h.defers,h.size,fun s v hs=>by
  obtain⟨u,h1,rfl⟩:=Ee (f:=SV.GM c) hs;rw [SV.QT hc];exact h.aO s u h1⟩
theorem HA.q_{st:St}(h:HA st.fr nt ρ a){c:BE}(hc:c.den ρ=false):HA (st.q_ c).fr nt ρ a:=
 ⟨h.defers,h.size,fun s v hs=>by
  obtain⟨u,h1,rfl⟩:=Ee (f:=SV.q_ c) hs;rw [SV.Nj hc];exact h.aO s u h1⟩
theorem HA.KP(h:HA fr nt ρ a){c:BE}(hc:c.den ρ=true):sR ρ (under c (look fr)) a.eval:=by
 refine⟨fun s v hs=>?_,fun _=>rfl,fun _=>rfl⟩;unfold under at hs;split at hs
 ·rename_i c' v' hl;have:=h.aO s _ hl;split at hs
  ·rename_i he;subst he;cases hs;show a.tmps.getD s undef=_;rw [this,SV.val,if_pos hc]
  ·split at hs
   ·rename_i x y _;split at hs
    ·rename_i he;subst he;cases hs;show a.tmps.getD s undef=_;rw [this];simp only [SV.val,BE.den,hc,Bool.true_and]
    ·cases hs;exact this
   ·cases hs;exact this
 ·exact h.aO s v hs
theorem yH{b:BE}(h:b.sc {}=true)(ρ:Env):b.den ρ=b.den MQ:=by
 have e:fR {} ρ {ρ with iv:=[],av:=[],bo:=[],bv:=[],vv:=[],pv:=[],lr:=[]}:=by
  constructor<;>first | rfl | (intro i hi;simp at hi)
 rw [BE.bN e h];clear h e;have key: ∀(x:E) (j:Nat),x.den {ρ with iv:=[],av:=[],bo:=[],bv:=[],vv:=[],pv:=[],lr:=[]} j=x.den MQ j:=by
  intro x
  induction x with
  | lit n=>intro j;rfl
  | var i=>intro j;rfl
  | aN i=>intro j;rfl
  | P1 a i ha hi=>intro j;simp only [E.den,ha,hi]
  | bin o k a b ha hb=>intro j;simp only [E.den,ha,hb]
  | wrap k a ha=>intro j;simp only [E.den,ha]
  | sD a i v ha hi hv=>intro j;simp only [E.den,ha,hi,hv]
  | shift a o ha ho=>intro j;simp only [E.den,ha,ho]
  | rl a o n b ha ho hn hb=>intro j;simp only [E.den,ha,ho,hn,hb]
  | oZ b=>intro j;rfl
  | kc n a ha=>intro j;simp only [E.den];rw [ajq fun i _=>ha i]
  | o3 l=>intro j;rfl
  | Qn a i ha hi=>intro j;simp only [E.den,o4,ha,hi]
  | po a i s ha hi hs=>intro j;simp only [E.den,DC,ha,hi,hs]
  | S9 s hs=>intro j;simp only [E.den,Ke,hs]
 have abw: ∀x:E,x.den {ρ with iv:=[],av:=[],bo:=[],bv:=[],vv:=[],pv:=[],lr:=[]}=x.den MQ:=fun x=>funext (key x)
 induction b with
 | lit b=>rfl
 | var i=>rfl
 | eq a b=>simp only [BE.den,key]
 | lt a b=>simp only [BE.den,key]
 | le a b=>simp only [BE.den,key]
 | nz a=>simp only [BE.den,key]
 | S_ n a b=>simp only [BE.den,key]
 | not a ih=>simp only [BE.den,ih]
 | and a b mg sE=>simp only [BE.den,mg,sE]
 | or a b mg sE=>simp only [BE.den,mg,sE]
 | ite c t e ihc Uk Ul=>simp only [BE.den,ihc,Uk,Ul]
 | seq a b=>simp only [BE.den,abw]
theorem mJ{known:List BE}(hk: ∀b∈known,b.prop ρ)(b:BE):(qy known b).den ρ=b.den ρ:=by
 unfold qy;split
 ·rfl
 ·split
  ·rename_i hc;exact(yH hc ρ).symm
  split
  ·rename_i hc;have:=hk b (by simpa using hc);rw [←BE.bZ]at this;rw [this];rfl
  ·split
   ·rename_i hc;have:=hk (iI b) (by simpa using hc);rw [←BE.bZ,c7]at this;simp only [BE.den];cases hb:b.den ρ
    ·rfl
    ·rw [hb]at this;cases this
   ·rfl
theorem SV.I5{known:List BE}(hk: ∀b∈known,b.prop ρ)(v:SV):(v.fix known).val ρ=v.val ρ:=by
 unfold SV.fix;split
 ·rename_i c v;have hd:=mJ hk c;split
  ·rename_i e;rw [e]at hd;simp [SV.val,←hd,BE.den]
  ·rename_i e;rw [e]at hd;simp [SV.val,←hd,BE.den]
  ·rfl
 ·rename_i b;simp only [SV.val,mJ hk b]
 ·rfl
theorem SV.Nk{known:List BE}(hk: ∀b∈known,b.prop ρ){c:BE}(hc:c.den ρ=true)(v:SV):(v.Up c known).val ρ=v.val ρ:=by
 have key: ∀b:BE,known.contains (iI (zZ c b))=true→b.den ρ=false:=by
  intro b hb;have:=hk _ (by simpa using hb);rw [←BE.bZ,c7,nB,hc]at this;simpa using this
 unfold SV.Up;split
 ·split
  ·rename_i b hb;simp only [SV.val,key b hb,BE.den]
  ·rfl
 ·split
  ·rename_i b v hb;simp [SV.val,key b hb]
  ·rfl
 ·rfl
theorem HA.uN(h:HA fr nt ρ a){known:List BE}(hk: ∀b∈known,b.prop ρ){g:Option BE}(hg:mR ρ g=true):sR ρ (AN g known fr) a.eval:=by
 refine⟨fun s v hs=>?_,fun _=>rfl,fun _=>rfl⟩;cases g with
 | none=>
  simp only [AN,aiO]at hs;obtain⟨u,hu,rfl⟩:=hs;rw [SV.I5 hk];exact h.aO s u hu
 | some c=>
  simp only [AN,aiO]at hs;obtain⟨u,hu,rfl⟩:=hs;rw [SV.Nk hk hg,SV.I5 hk];exact(HA.KP h hg).1 s u hu
theorem oC(h:HA fr nt ρ a){known:List BE}(hk: ∀b∈known,b.prop ρ){x:Operand}{b:BE}(hc:GN fr known x=some b):a.eval x= .bool (b.den ρ):=by
 unfold GN at hc;split at hc
 ·rename_i b' he;cases hc;rw [eJ h.eval he,mJ hk];rfl
 ·cases hc
theorem tl{all:Array Oper}{tmps:Array Value}{j d:Nat}{oj:Oper}(hj:all[j]? =some oj)(hd:oj.dst=some d){b:Bool}(hv:tmps.getD d undef= .bool b):
  yielded all tmps j=some b:=by
 unfold yielded;simp only [hj,Option.bind_some,hd];rw [ai7]at hv;cases ht:tmps[d]? with
 | none=>rw [ht]at hv;cases hv
 | some v=>
  rw [ht]at hv;simp only [ajh]at hv;subst hv;rfl
theorem mY{all:Array Oper}{tmps:Array Value}{j d:Nat}{oj:Oper}(hj:all[j]? =some oj)(hd:oj.dst=some d)(hv:tmps.getD d undef=undef):
  yielded all tmps j=none:=by
 unfold yielded;simp only [hj,Option.bind_some,hd];rw [ai7]at hv;cases ht:tmps[d]? with
 | none=>rfl
 | some v=>
  rw [ht]at hv;simp only [ajh]at hv;subst hv;rfl
theorem rF(h:HA fr nt ρ a){all:Array Oper}{o:Oper}{g:Option BE}(hg:guardOf all fr o=some g):
  Region.wanted o (yielded all a.tmps)=mR ρ g:=by
 unfold guardOf at hg;split at hg
 ·rename_i hn;cases hg;simp [Region.wanted,hn,mR]
 ·rename_i j want hn;split at hg
  ·rename_i oj hj;split at hg
   ·rename_i d hd;split at hg
    ·rename_i b hl;cases hg;have:=tl hj hd (h.aO d _ hl);simp only [Region.wanted,hn,this,mR];cases want
     ·simp only [Bool.false_eq_true,if_false,c7];cases b.den ρ<;>rfl
     ·simp only [if_true];cases b.den ρ<;>rfl
    ·rename_i c b hl;cases hg;have h1:=h.aO d _ hl;simp only [SV.val]at h1;simp only [Region.wanted,hn,mR,nB];cases hc:c.den ρ with
     | true=>
      rw [hc,if_pos rfl]at h1;rw [tl hj hd h1];cases want
      ·simp only [Bool.false_eq_true,if_false,c7,Bool.true_and];cases b.den ρ<;>rfl
      ·simp only [if_true,Bool.true_and];cases b.den ρ<;>rfl
     | false=>
      rw [hc,if_neg (by simp)]at h1;rw [mY hj hd h1];rfl
    ·rename_i hl;cases hg;rw [Region.wanted,hn];simp only [mY hj hd (h.aO d _ hl),mR,BE.den];rfl
    ·rename_i c hl;cases hg;have h1:=h.aO d _ hl;simp only [SV.val,ite_self]at h1;rw [Region.wanted,hn];simp only [mY hj hd h1,mR,BE.den];rfl
    ·cases hg
   ·cases hg
  ·cases hg
theorem kd(h:HA fr nt ρ a){all:Array Oper}{known:List BE}(hk: ∀b∈known,b.prop ρ){o:Oper}{g:Option BE}(hg:qz all fr known o=some g):
  Region.wanted o (yielded all a.tmps)=mR ρ g:=by
 unfold qz at hg;split at hg
 ·rename_i b hb;rw [rF h hb];have hd:=mJ hk b;split at hg
  ·rename_i he;cases hg;rw [he]at hd;exact hd.symm
  ·cases hg;exact hd.symm
 ·rw [rF h hg]
theorem xi{g:Option BE}{b:BE}(h:(Wz g b).prop ρ)(hg:mR ρ g=true):b.prop ρ:=by
 cases g with
 | none=>exact h
 | some c=>
  simp only [Wz,mR]at h hg;rw [←BE.bZ,IQ,c7,hg]at h;rw [←BE.bZ];simpa using h
theorem KQ{b:BE}(h:b.sure=true)(ρ:Env):b.den ρ=true:=by
 simp only [BE.sure,ai]at h;rw [yH h.1];exact h.2
theorem g_{ao:Value→List HP→Prop}{g:Option BE}{known:List BE}{r:F}{L:Nat→LC}(hk: ∀b∈known,b.prop ρ): ∀{vcs:List BE},VC P ao (px g vcs known r) ρ L→
  (mR ρ g=true→∀b∈vcs,b.prop ρ)∧VC P ao r ρ L
 | [],h=>⟨fun _ b hb=>(by cases hb),h⟩
 | b::bs,h=>by
  unfold px at h;split at h
  ·rename_i hc;obtain⟨h1,h2⟩:=g_ hk h;refine⟨fun hg x hx=>?_,h2⟩;rcases ai0.1 hx with rfl | hx
   ·rw [Bool.or_eq_true,Bool.or_eq_true]at hc;rcases hc with(hc | hc) | hc
    ·rw [beq_iff_eq]at hc;exact xi (by rw [hc];rfl) hg
    ·exact xi (hk _ (by simpa using hc)) hg
    ·exact xi ((BE.bZ _ _).1 (KQ hc _)) hg
   ·exact h1 hg x hx
  ·simp only [VC,aw]at h;obtain⟨h1,h2⟩:=g_ hk (h.2 h.1);refine⟨fun hg x hx=>?_,h2⟩;rcases ai0.1 hx with rfl | hx
   ·exact xi h.1 hg
   ·exact h1 hg x hx
theorem vM{look:Nat→Option SV}{α:Type}{f:α→Option SV}{g:α→Sem Value}(hf: ∀x v,f x=some v→(g x).run P w= .ok (v.val ρ) w): ∀(xs:List α) (vs:List SV),jm (xs.map f)=some vs→
  (xs.mapM g).run P w= .ok (SV.bH ρ vs) w
 | [],vs,he=>by simp [jm]at he;subst he;simp [SV.bH]
 | x::r,vs,he=>by
  simp only [ajb]at he;cases hx:f x with
  | none=>rw [hx]at he;simp [jm]at he
  | some v=>
   rw [hx]at he;simp only [jm,aiO]at he;obtain⟨rs,o7,rfl⟩:=he;have:=vM (look:=look) hf r rs o7;simp [List.mapM_cons,hf x v hx,this,SV.bH]
def I6(tmps:Array Value):ResultVar→Sem Value
 | .tmp t=>pure (tmps.getD t undef)
 | .cell c t=>do loadVar t (←asAddr (tmps.getD c undef))
theorem yI(fn:Func)(tmps:Array Value):results fn tmps=(do let vs←fn.results.mapM (I6 tmps);pure (if h:vs.size=1 then vs[0]else .tuple vs)):=by
 unfold results;congr 2
theorem oD{T:List TI}(hT:bD P T=true){st:St}(hw:HW Fs w0 st ρ w)(ha:HA st.fr nt ρ a){fn:Func}{v:SV}(hv:xL T st fn=some v):
  (results fn a.tmps).run P w= .ok (v.val ρ) w:=by
 obtain⟨S,hS⟩:=hw.own;have one: ∀(x:ResultVar) (u:SV),BV T st x=some u→
   (I6 a.tmps x).run P w= .ok (u.val ρ) w:=by
  intro x u hx;unfold I6;cases x with
  | tmp t=>
   have:=ha.aO t u hx;simp only [this,ajd]
  | cell c t=>
   simp only [BV]at hx;split at hx
   ·rename_i ti y cK hy;split at hx
    ·rename_i r hr;split at hx
     ·rename_i he;cases hx;obtain⟨rfl,hi⟩:=aE hT cK;have cP:Reads st.hp ρ w S r.rd:=by
       intro j _ ck hj;refine(hS.at_ j (ck.den ρ) ?_).1;rw [aiR (by simpa using (aiN.1 hj).1),List.getElem?_map,hj];rfl
      have h1:=(ry hi hr cP (by rw [List.isEmpty_iff.1 he];intro b hb;cases hb)).1;have h2:=ha.aO c y hy;simp only [h2];unfold Instr.loadAt at h1;cases ml:y.val ρ with
      | pointer p=>
       cases p with
       | some ad=>
        rw [ml]at h1;simpa [Instr.sureAddr,asAddr] using h1
       | none=>rw [ml]at h1;simp [Instr.sureAddr]at h1
      | _=>rw [ml]at h1;simp [Instr.sureAddr]at h1
     ·cases hx
    ·cases hx
   ·cases hx
 unfold xL at hv;have key: ∀vs,jm (fn.results.toList.map (BV T st))=some vs→
   (fn.results.mapM (I6 a.tmps)).run P w= .ok (SV.bH ρ vs).toArray w:=by
  intro vs AR;have:=vM (look:=fun _=>none) one _ vs AR;rw [Array.mapM_eq_mapM_toList];simp [this]
 split at hv
 ·rename_i u hu;cases hv;have:=key _ hu;rw [yI];simp only [ai2];rw [this];simp [SV.bH]
 ·rename_i vs dI AR;cases hv;have:=key _ AR;rw [yI];simp only [ai2];rw [this];have hl:(SV.bH ρ vs).length≠1:=by
   intro h1;have: ∀l:List SV,(SV.bH ρ l).length=l.length:=by
    intro l;induction l with
    | nil=>rfl
    | cons x r ih=>simp [SV.bH,ih]
   rw [this]at h1;obtain⟨x,rfl⟩:=List.length_eq_one_iff.1 h1;exact dI x rfl
  simp [hl,SV.val]
 ·cases hv
end
end Go.RX
