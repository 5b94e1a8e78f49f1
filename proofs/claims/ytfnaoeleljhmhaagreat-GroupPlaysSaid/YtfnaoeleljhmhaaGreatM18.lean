/- A reflective symbolic executor, part 20: what holds along a run; monotony. · A reflective symbolic executor, part 21: guards, frames, results, nil slices. -/
import Derived.Test.YtfnaoeleljhmhaaGreatM17
import Derived.Sort.LoopGhostIn

namespace Go.RX
structure Cnt.le (c d:Cnt):Prop where
 b:c.b≤d.b
 v:c.v≤d.v
 i:c.i≤d.i
 a:c.a≤d.a
 bo:c.bo≤d.bo
 p:c.p≤d.p
 r:c.r≤d.r
theorem Cnt.le_add(c d:Cnt):c.le (c.add d):=by constructor<;>simp [Cnt.add]
theorem Cnt.le_refl(c:Cnt):c.le c:=by constructor<;>exact Nat.le_refl _
section
variable {c d:Cnt}
theorem E.sc_mono(h:c.le d){e:E}(hs:e.sc c=true):e.sc d=true:=by
 induction e with
 | lit n=>rfl
 | var i=>simp only [E.sc,Nat.blt_eq]at*;exact Nat.lt_of_lt_of_le hs h.i
 | avar i=>simp only [E.sc,Nat.blt_eq]at*;exact Nat.lt_of_lt_of_le hs h.a
 | sel a i iha ihi=>simp only [E.sc,Bool.and_eq_true]at*;exact⟨iha hs.1,ihi hs.2⟩
 | bin o k a b iha ihb=>simp only [E.sc,Bool.and_eq_true]at*;exact⟨iha hs.1,ihb hs.2⟩
 | wrap k a ih=>simp only [E.sc]at*;exact ih hs
 | upd a i v iha ihi ihv=>simp only [E.sc,Bool.and_eq_true]at*;exact⟨⟨iha hs.1.1,ihi hs.1.2⟩,ihv hs.2⟩
 | shift a o iha iho=>simp only [E.sc,Bool.and_eq_true]at*;exact⟨iha hs.1,iho hs.2⟩
 | spl a o n b iha iho ihn ihb=>simp only [E.sc,Bool.and_eq_true]at*;exact⟨⟨⟨iha hs.1.1.1,iho hs.1.1.2⟩,ihn hs.1.2⟩,ihb hs.2⟩
 | kc n a ih=>simp only [E.sc]at*;exact ih hs
 | blk b=>simp only [E.sc,Nat.blt_eq]at*;exact Nat.lt_of_lt_of_le hs h.b
 | rowl l=>rfl
 | at2 a i iha ihi=>simp only [E.sc,Bool.and_eq_true]at*;exact⟨iha hs.1,ihi hs.2⟩
 | put2 a i s iha ihi ihs=>simp only [E.sc,Bool.and_eq_true]at*;exact⟨⟨iha hs.1.1,ihi hs.1.2⟩,ihs hs.2⟩
 | sby s ih=>simp only [E.sc]at*;exact ih hs
 | srow s ih=>simp only [E.sc]at*;exact ih hs
 | scd s ih=>simp only [E.sc]at*;exact ih hs
theorem BE.sc_mono(h:c.le d){b:BE}(hs:b.sc c=true):b.sc d=true:=by
 induction b with
 | lit n=>rfl
 | var i=>simp only [BE.sc,Nat.blt_eq]at*;exact Nat.lt_of_lt_of_le hs h.bo
 | eq a b=>simp only [BE.sc,Bool.and_eq_true]at*;exact⟨E.sc_mono h hs.1,E.sc_mono h hs.2⟩
 | lt a b=>simp only [BE.sc,Bool.and_eq_true]at*;exact⟨E.sc_mono h hs.1,E.sc_mono h hs.2⟩
 | le a b=>simp only [BE.sc,Bool.and_eq_true]at*;exact⟨E.sc_mono h hs.1,E.sc_mono h hs.2⟩
 | nz a=>simp only [BE.sc]at*;exact E.sc_mono h hs
 | aeq n a b=>simp only [BE.sc,Bool.and_eq_true]at*;exact⟨E.sc_mono h hs.1,E.sc_mono h hs.2⟩
 | not a ih=>simp only [BE.sc]at*;exact ih hs
 | and a b iha ihb=>simp only [BE.sc,Bool.and_eq_true]at*;exact⟨iha hs.1,ihb hs.2⟩
 | or a b iha ihb=>simp only [BE.sc,Bool.and_eq_true]at*;exact⟨iha hs.1,ihb hs.2⟩
 | ite x t e ihx iht ihe=>simp only [BE.sc,Bool.and_eq_true]at*;exact⟨⟨ihx hs.1.1,iht hs.1.2⟩,ihe hs.2⟩
 | seq a b=>simp only [BE.sc,Bool.and_eq_true]at*;exact⟨E.sc_mono h hs.1,E.sc_mono h hs.2⟩
 | vnil i=>simp only [BE.sc,Nat.blt_eq]at*;exact Nat.lt_of_lt_of_le hs h.v
theorem cuts_mono(h:c.le d){cs:List Cut}(hs:cs.all (Cut.sc c)=true):cs.all (Cut.sc d)=true:=by
 refine List.all_eq_true.2 fun k hk=>?_
 have:=List.all_eq_true.1 hs k hk;simp only [Cut.sc,Bool.and_eq_true]at this ⊢;refine⟨⟨E.sc_mono h this.1.1,E.sc_mono h this.1.2⟩,?_⟩;cases hm:k.mx with
 | none=>rfl
 | some m=>rw [hm]at this;exact E.sc_mono h this.2
mutual
theorem SV.sc_mono(h:c.le d): ∀{v:SV},v.sc c=true→v.sc d=true
 | .int k e,hs=>by simp only [SV.sc]at*;exact E.sc_mono h hs
 | .bool b,hs=>by simp only [SV.sc]at*;exact BE.sc_mono h hs
 | .nilp,_=>rfl
 | .nils,_=>rfl
 | .nilf,_=>rfl
 | .nili,_=>rfl
 | .nilm,_=>rfl
 | .undef,_=>rfl
 | .ptr b n,hs=>by simp only [SV.sc,Nat.blt_eq]at*;exact Nat.lt_of_lt_of_le hs h.b
 | .ptri b i s n,hs=>by simp only [SV.sc,Nat.blt_eq,Bool.and_eq_true]at*;exact⟨Nat.lt_of_lt_of_le hs.1 h.b,E.sc_mono h hs.2⟩
 | .pv v i s n,hs=>by simp only [SV.sc,Nat.blt_eq,Bool.and_eq_true]at*;exact⟨Nat.lt_of_lt_of_le hs.1 h.v,E.sc_mono h hs.2⟩
 | .sl b i s n m,hs=>by simp only [SV.sc,Nat.blt_eq,Bool.and_eq_true]at*;exact⟨⟨⟨Nat.lt_of_lt_of_le hs.1.1.1 h.b,E.sc_mono h hs.1.1.2⟩,E.sc_mono h hs.1.2⟩,E.sc_mono h hs.2⟩
 | .vv i,hs=>by simp only [SV.sc,Nat.blt_eq]at*;exact Nat.lt_of_lt_of_le hs h.v
 | .str l,_=>rfl
 | .fn f caps,hs=>by simp only [SV.sc]at*;exact SV.scL_mono h hs
 | .fm f caps,hs=>by simp only [SV.sc]at*;exact SV.scL_mono h hs
 | .fmi n t l k,hs=>by simp only [SV.sc,Nat.blt_eq]at*;exact Nat.lt_of_lt_of_le hs h.b
 | .agg cs,hs=>by simp only [SV.sc]at*;exact SV.scL_mono h hs
 | .seg k n a,hs=>by simp only [SV.sc]at*;exact E.sc_mono h hs
 | .tup vs,hs=>by simp only [SV.sc]at*;exact SV.scL_mono h hs
 | .opt b v,hs=>by simp only [SV.sc,Bool.and_eq_true]at*;exact⟨BE.sc_mono h hs.1,SV.sc_mono h hs.2⟩
 | .vsel a i,hs=>by simp only [SV.sc]at*;exact E.sc_mono h hs
 | .yld l,hs=>by simp only [SV.sc,Nat.blt_eq]at*;exact Nat.lt_of_lt_of_le hs h.b
 | .mp l,hs=>by simp only [SV.sc,Nat.blt_eq]at*;exact Nat.lt_of_lt_of_le hs h.b
 | .ptrE e,hs=>by simp only [SV.sc]at*;exact E.sc_mono h hs
 | .cvE e,hs=>by simp only [SV.sc]at*;exact E.sc_mono h hs
 | .strE e,hs=>by simp only [SV.sc]at*;exact E.sc_mono h hs
 | .ifl t k e,hs=>by simp only [SV.sc]at*;exact E.sc_mono h hs
 | .ifp t l k,hs=>by simp only [SV.sc,Nat.blt_eq]at*;exact Nat.lt_of_lt_of_le hs h.b
 | .asl v i s c' n,hs=>by simp only [SV.sc,Bool.and_eq_true,Nat.blt_eq]at*;exact⟨Nat.lt_of_lt_of_le hs.1 h.v,E.sc_mono h hs.2⟩
 | .ifv b v,hs=>by simp only [SV.sc,Bool.and_eq_true,Nat.blt_eq]at*;exact⟨BE.sc_mono h hs.1,Nat.lt_of_lt_of_le hs.2 h.v⟩
 | .vsub v cs s,hs=>by simp only [SV.sc,Nat.blt_eq,Bool.and_eq_true]at*;exact⟨Nat.lt_of_lt_of_le hs.1 h.v,cuts_mono h hs.2⟩
theorem SV.scL_mono(h:c.le d): ∀{l:List SV},SV.scL c l=true→SV.scL d l=true
 | [],_=>rfl
 | v::r,hs=>by simp only [SV.scL,Bool.and_eq_true]at*;exact⟨SV.sc_mono h hs.1,SV.scL_mono h hs.2⟩
end
theorem Col.sc_mono(h:c.le d){k:Col}(hs:k.sc c=true):k.sc d=true:=by
 simp only [Col.sc,Bool.and_eq_true]at hs ⊢;refine⟨E.sc_mono h hs.1,?_⟩;have h2:=hs.2;unfold CK.sc at h2 ⊢;split
 ·rename_i l hl;rw [hl]at h2;exact List.all_eq_true.2 fun n hn=>by
   have:=List.all_eq_true.1 h2 n hn;simp only [Nat.blt_eq]at this ⊢;exact Nat.lt_of_lt_of_le this h.v
 ·rename_i q v hl;rw [hl]at h2;simp only [Bool.and_eq_true,Nat.blt_eq]at h2 ⊢;exact⟨E.sc_mono h h2.1,Nat.lt_of_lt_of_le h2.2 h.v⟩
 ·rfl
theorem cols_mono(h:c.le d){cols:List Col}(hs:cols.all (Col.sc c)=true):cols.all (Col.sc d)=true:=
 List.all_eq_true.2 fun k hk=>Col.sc_mono h (List.all_eq_true.1 hs k hk)
theorem Ck.sc_mono(h:c.le d){k:Ck}(hs:k.sc c=true):k.sc d=true:=by
 cases k with
 | emp=>rfl
 | row b w cs=>simp only [Ck.sc,Nat.blt_eq,Bool.and_eq_true]at*;exact⟨Nat.lt_of_lt_of_le hs.1 h.b,SV.scL_mono h hs.2⟩
 | sli md v t s n cols=>simp only [Ck.sc,Nat.blt_eq,Bool.and_eq_true]at*;exact⟨⟨Nat.lt_of_lt_of_le hs.1.1 h.v,E.sc_mono h hs.1.2⟩,cols_mono h hs.2⟩
 | abs i=>simp only [Ck.sc,Nat.blt_eq]at*;exact Nat.lt_of_lt_of_le hs h.p
 | lrec l r s j=>simp only [Ck.sc,Bool.and_eq_true,Nat.blt_eq]at*;exact⟨Nat.lt_of_lt_of_le hs.1 h.b,Nat.lt_of_lt_of_le hs.2 h.r⟩
 | dfr b=>simp only [Ck.sc,Nat.blt_eq]at*;exact Nat.lt_of_lt_of_le hs h.b
 | dfrs b=>simp only [Ck.sc,Nat.blt_eq]at*;exact Nat.lt_of_lt_of_le hs h.b
 | map b kl ka va z has cols=>simp only [Ck.sc,Bool.and_eq_true,Nat.blt_eq]at*;exact⟨⟨⟨Nat.lt_of_lt_of_le hs.1.1.1 h.b,SV.scL_mono h hs.1.1.2⟩,E.sc_mono h hs.1.2⟩,cols_mono h hs.2⟩
 | sit b l p=>simp only [Ck.sc,Nat.blt_eq]at*;exact Nat.lt_of_lt_of_le hs h.b
 | mit b m=>simp only [Ck.sc,Bool.and_eq_true,Nat.blt_eq]at*;exact⟨Nat.lt_of_lt_of_le hs.1 h.b,Nat.lt_of_lt_of_le hs.2 h.b⟩
 | bld b t e n a=>simp only [Ck.sc,Nat.blt_eq,Bool.and_eq_true]at*;exact⟨⟨Nat.lt_of_lt_of_le hs.1.1 h.b,E.sc_mono h hs.1.2⟩,E.sc_mono h hs.2⟩
 | mapl b kl ka va z es=>simp only [Ck.sc,Bool.and_eq_true,Nat.blt_eq]at*;exact⟨⟨Nat.lt_of_lt_of_le hs.1.1 h.b,SV.scL_mono h hs.1.2⟩,List.all_eq_true.2 fun e he=>SV.scL_mono h (List.all_eq_true.1 hs.2 e he)⟩
theorem Cks_mono(h:c.le d){hp:List Ck}(hs:hp.all (Ck.sc c)=true):hp.all (Ck.sc d)=true:=
 List.all_eq_true.2 fun k hk=>Ck.sc_mono h (List.all_eq_true.1 hs k hk)
theorem frSc_mono(h:c.le d){fr:List (Nat×SV)}(hs:frSc c fr=true):frSc d fr=true:=
 List.all_eq_true.2 fun k hk=>SV.sc_mono h (List.all_eq_true.1 hs k hk)
theorem BEs_mono(h:c.le d){l:List BE}(hs:l.all (BE.sc c)=true):l.all (BE.sc d)=true:=
 List.all_eq_true.2 fun k hk=>BE.sc_mono h (List.all_eq_true.1 hs k hk)
end
theorem look_sc{c:Cnt}{fr:List (Nat×SV)}(hs:frSc c fr=true){s:Nat}{v:SV}(h:look fr s=some v):v.sc c=true:=by
 induction fr with
 | nil=>cases h
 | cons x r ih=>
  obtain⟨t,u⟩:=x;simp only [frSc,List.all_cons,Bool.and_eq_true]at hs;unfold look at h;split at h
  ·cases h;exact hs.1
  ·exact ih hs.2 h
theorem dsc_mono{c d:Cnt}(h:c.le d){ds:List MK}(hs:ds.all (MK.sc c)=true):ds.all (MK.sc d)=true:=
 List.all_eq_true.2 fun k hk=>by
  have:=List.all_eq_true.1 hs k hk;cases k<;>simp only [MK.sc,Nat.blt_eq]at* <;>exact Nat.lt_of_lt_of_le this h.b
structure HW (Fs:List HP) (w0:World) (st:St) (ρ:Env) (w:World):Prop where
 lens:Lens ρ st.cnt
 scf:frSc st.cnt st.fr=true
 sch:st.hp.all (Ck.sc st.cnt)=true
 sck:st.known.all (BE.sc st.cnt)=true
 kn: ∀b∈st.known,b.prop ρ
 own:Owns (st.hp.map (Ck.den ρ)++Fs) w
 same:Same w0 w
 scd:st.nt.ds.all (MK.sc st.cnt)=true
noncomputable def MK.blocks(ρ:Env):MK→List Nat
 | .one b=>[ρ.bv.getD b 0]
 | .many b=>listOf (ρ.bv.getD b 0)
noncomputable def marks(ρ:Env)(ds:List MK):List Deferred:=(ds.flatMap (MK.blocks ρ)).map fun b=>{target:= .collected b,args:= #[]}
structure HA (fr:List (Nat×SV)) (nt:NT) (ρ:Env) (a:Act):Prop where
 defers:a.defers=marks ρ nt.ds
 size:nt.n≤a.tmps.size
 slots: ∀s v,look fr s=some v→a.tmps.getD s undef=v.val ρ
def resume:Exit→List KI→Option (List KI)
 | .normal,k=>some k
 | .exit id,k=>popExit id k
 | .ret,k=>popRet k
 | _,_=>none
section
variable (P:Program) (C:Ctx) (Post:Value→List HP→Prop) (Fs:List HP) (w0:World)
def At(n:Nat)(k:List KI)(ρb:Env)(Lb:Nat→LC)(a:Act)(w:World):Prop:=
 ∃m,m<n∧∃st ρ L,Env.Le ρb ρ∧(∀j,j<nl k→L j=Lb j)∧HW Fs w0 st ρ w∧HA st.fr st.nt ρ a∧VC P Post (run C m k st) ρ L
def QK(n:Nat)(k:List KI)(ρb:Env)(Lb:Nat→LC)(e:Exit)(a:Act)(w:World):Prop:=
 ∃k',resume e k=some k'∧At P C Post Fs w0 n k' ρb Lb a w
end
theorem popExit_nl: ∀{id:Nat} {k k':List KI},popExit id k=some k'→nl k'≤nl k
 | id,[],k',h=>by simp [popExit]at h
 | id,.blk i::k,k',h=>by
  unfold popExit at h;split at h
  ·cases h;exact Nat.le_refl _
  ·exact popExit_nl (k:=k) h
 | id,.code _::k,k',h=>popExit_nl (k:=k) h
 | id,.gh _::k,k',h=>popExit_nl (k:=k) h
 | id,.again _::k,k',h=>popExit_nl (k:=k) h
 | id,.ops .. ::k,k',h=>popExit_nl (k:=k) h
 | id,.loop .. ::k,k',h=>Nat.le_trans (popExit_nl (k:=k) h) (Nat.le_succ _)
 | id,.jn i up nt c0 inc fr hp pre::k,k',h=>by
  simp only [popExit]at h;split at h
  ·cases h;exact Nat.le_refl _
  ·exact Nat.le_trans (popExit_nl (k:=k) h) (Nat.le_succ _)
 | id,.dops .. ::k,k',h=>by simp [popExit]at h
 | id,.call .. ::k,k',h=>by simp [popExit]at h
 | id,.top .. ::k,k',h=>by simp [popExit]at h
 | id,.rf .. ::k,k',h=>by simp [popExit]at h
 | id,.begin .. ::k,k',h=>by simp [popExit]at h
 | id,.roundEnd .. ::k,k',h=>by simp [popExit]at h
 | id,.round .. ::k,k',h=>by simp only [popExit]at h;cases h;exact Nat.le_refl _
theorem popRet_nl: ∀{k k':List KI},popRet k=some k'→nl k'≤nl k
 | [],k',h=>by simp [popRet]at h
 | .blk i::k,k',h=>popRet_nl (k:=k) h
 | .code _::k,k',h=>popRet_nl (k:=k) h
 | .gh _::k,k',h=>popRet_nl (k:=k) h
 | .again _::k,k',h=>popRet_nl (k:=k) h
 | .ops .. ::k,k',h=>popRet_nl (k:=k) h
 | .loop .. ::k,k',h=>Nat.le_trans (popRet_nl (k:=k) h) (Nat.le_succ _)
 | .jn .. ::k,k',h=>Nat.le_trans (popRet_nl (k:=k) h) (Nat.le_succ _)
 | .dops .. ::k,k',h=>by simp [popRet]at h
 | .call .. ::k,k',h=>by simp only [popRet]at h;cases h;exact Nat.le_refl _
 | .top .. ::k,k',h=>by simp only [popRet]at h;cases h;exact Nat.le_refl _
 | .rf .. ::k,k',h=>by simp only [popRet]at h;cases h;exact Nat.le_refl _
 | .round .. ::k,k',h=>by simp only [popRet]at h;cases h;exact Nat.le_refl _
 | .begin .. ::k,k',h=>by simp [popRet]at h
 | .roundEnd .. ::k,k',h=>by simp [popRet]at h
theorem resume_nl{e:Exit}{k k':List KI}(h:resume e k=some k'):nl k'≤nl k:=by
 cases e with
 | normal=>cases h;exact Nat.le_refl _
 | exit id=>exact popExit_nl h
 | ret=>exact popRet_nl h
 | goto l=>cases h
 | panic c=>cases h
 | outgrown=>cases h
section
variable {P:Program} {C:Ctx} {Post:Value→List HP→Prop} {Fs:List HP} {w0:World}
theorem At.mono{n n':Nat}{k:List KI}{ρ ρ':Env}{L L':Nat→LC}{a:Act}{w:World}(h:At P C Post Fs w0 n k ρ' L' a w)(hn:n≤n')(hρ:Env.Le ρ ρ')
  (hL: ∀j,j<nl k→L' j=L j):At P C Post Fs w0 n' k ρ L a w:=by
 obtain⟨m,hm,st,r,L2,h1,h2,h3⟩:=h;exact⟨m,Nat.lt_of_lt_of_le hm hn,st,r,L2,hρ.trans h1,fun j hj=>(h2 j hj).trans (hL j hj),h3⟩
theorem QK.mono{n n':Nat}{k:List KI}{ρ ρ':Env}{L L':Nat→LC}{e:Exit}{a:Act}{w:World}(h:QK P C Post Fs w0 n k ρ' L' e a w)(hn:n≤n')(hρ:Env.Le ρ ρ')
  (hL: ∀j,j<nl k→L' j=L j):QK P C Post Fs w0 n' k ρ L e a w:=by
 obtain⟨k',hk,h⟩:=h;exact⟨k',hk,h.mono hn hρ fun j hj=>hL j (Nat.lt_of_lt_of_le hj (resume_nl hk))⟩
theorem QK.move{n:Nat}{k k2:List KI}{ρ:Env}{L L2:Nat→LC}{e:Exit}{a:Act}{w:World}(h:QK P C Post Fs w0 n k2 ρ L2 e a w)(hk:resume e k2=resume e k)
  (hL: ∀j,j<nl k→L2 j=L j):QK P C Post Fs w0 n k ρ L e a w:=by
 obtain⟨k',h1,h⟩:=h;rw [hk]at h1;exact⟨k',h1,h.mono (Nat.le_refl _) (Env.Le.refl _) fun j hj=>hL j (Nat.lt_of_lt_of_le hj (resume_nl h1))⟩
variable {F:Fence} {n:Nat} {ops:Array Oper}
theorem Oper.wpIn_mono2{o:Oper}{a:Act}{w:World}{K K':Act→World→Prop}{Q Q':Exit→Act→World→Prop}(h: ∀a w,K a w→K' a w)(hq: ∀e a w,Q e a w→Q' e a w)
  (hh:o.wpIn F n P a w K Q):o.wpIn F n P a w K' Q':=by
 unfold Oper.wpIn at*;refine⟨hh.1,?_⟩;have hh:=hh.2;have hout:LetsOut Q→LetsOut Q':=fun⟨a,w,h⟩=>⟨a,w,hq _ _ _ h⟩
 generalize (o.semAt F.round a.eval).run P w=r at*;cases r with
 | ok x w'=>
  cases x<;>simp only [Oper.uponIn]at hh ⊢ <;>
   first
    | exact h _ _ hh
    | exact⟨hh.1,CallsIn.mono hh.2 (fun e w'' he=>by cases e<;>first | exact h _ _ he | exact hq _ _ _ he | exact hout he)⟩
    | exact⟨hh.1,RowsIn.mono hh.2 (fun _ _ he=>h _ _ he)⟩
    | exact⟨hh.1,RoundIn.mono hh.2 (fun e w'' he=>by cases e<;>first | exact h _ _ he | exact hq _ _ _ he | exact hout he)⟩
 | halt x w'=>cases x<;>simp only [Oper.uponIn]at hh ⊢ <;>first | exact hq _ _ _ hh | exact hh
theorem wpListIn_mono{Q Q':Exit→Act→World→Prop}(hq: ∀e a w,Q e a w→Q' e a w): ∀{l:List Oper} {a:Act} {w:World},wpListIn F n P ops Q l a w→wpListIn F n P ops Q' l a w
 | [],a,w,h=>hq _ _ _ h
 | o::r,a,w,h=>by
  unfold wpListIn at*;split
  ·rename_i hw;rw [if_pos hw]at h;exact Oper.wpIn_mono2 (fun a w=>wpListIn_mono hq) hq h
  ·rename_i hw;rw [if_neg hw]at h;exact⟨h.1,wpListIn_mono hq h.2⟩
end
end Go.RX

namespace Go.RX
section
variable {P:Program} {ρ ρ':Env} {a:Act} {w:World} {fr:List (Nat×SV)} {nt:NT}
theorem look_filter(d:Nat)(fr:List (Nat×SV))(s:Nat)(h:s≠d):look (fr.filter fun x=> !(x.1==d)) s=look fr s:=by
 induction fr with
 | nil=>rfl
 | cons x r ih=>
  obtain⟨t,v⟩:=x;by_cases ht:t=d
  ·subst ht;rw [List.filter_cons_of_neg (by simp),ih]
   conv=>rhs;unfold look
   rw [if_neg (by simp;exact Ne.symm h)]
  ·rw [List.filter_cons_of_pos (by simpa using ht)];unfold look;rw [ih]
theorem HA.put(h:HA fr nt ρ a){d:Option Nat}{v:SV}{u:Value}(hd: ∀x,d=some x→x<nt.n)(hv:u=v.val ρ)(st:St)(hfr:st.fr=fr):
  HA (st.put d v).fr nt ρ (a.put d u):=by
 subst hfr;cases d with
 | none=>exact h
 | some d=>
  have hlt:=hd d rfl;refine⟨h.defers,by simpa [Act.put] using h.size,fun s x hs=>?_⟩;simp only [St.put]at hs;unfold look at hs;split at hs
  ·rename_i hds;rw [beq_iff_eq]at hds;subst hds;cases hs;have:=h.size;rw [←hv];simp only [Act.put];rw [Array.getD_eq_getD_getElem?,Array.getElem?_setIfInBounds_self_of_lt (by omega)];rfl
  ·rename_i hds;have hne:s≠d:=fun e=>hds (by simp [e])
   rw [look_filter d _ s hne]at hs;have:=h.slots s x hs;rw [←this];simp only [Act.put];rw [Array.getD_eq_getD_getElem?,Array.getD_eq_getD_getElem?,Array.getElem?_setIfInBounds_ne (Ne.symm hne)]
theorem put_rest(st:St)(d:Option Nat)(v:SV):(st.put d v).hp=st.hp∧(st.put d v).cnt=st.cnt∧(st.put d v).known=st.known∧(st.put d v).nt=st.nt∧(st.put d v).fn=st.fn:=by
 cases d<;>exact⟨rfl,rfl,rfl,rfl,rfl⟩
theorem put_sc{c:Cnt}{st:St}{d:Option Nat}{v:SV}(h:frSc c st.fr=true)(hv:v.sc c=true):frSc c (st.put d v).fr=true:=by
 cases d with
 | none=>exact h
 | some d=>
  simp only [St.put,frSc,List.all_cons,Bool.and_eq_true];exact⟨hv,List.all_eq_true.2 fun x hx=>List.all_eq_true.1 h x (List.mem_filter.1 hx).1⟩
variable {Fs:List HP} {w0:World}
theorem HW.put{st:St}(h:HW Fs w0 st ρ w){d:Option Nat}{v:SV}(hv:v.sc st.cnt=true):HW Fs w0 (st.put d v) ρ w:=by
 obtain⟨e1,e2,e3,e4,_⟩:=put_rest st d v;refine⟨by rw [e2];exact h.lens,by rw [e2];exact put_sc h.scf hv,by rw [e1,e2];exact h.sch,by rw [e2,e3];exact h.sck,by rw [e3];exact h.kn,by rw [e1];exact h.own,h.same,by rw [e2,e4];exact h.scd⟩
theorem marks_sc{c:Cnt}(hag:Agree c ρ ρ'){ds:List MK}(h:ds.all (MK.sc c)=true):marks ρ ds=marks ρ' ds:=by
 unfold marks;congr 1;rw [List.flatMap_def,List.flatMap_def];congr 1;refine List.map_congr_left fun d hd=>?_
 have:=List.all_eq_true.1 h d hd;cases d<;>simp only [MK.sc,Nat.blt_eq]at this<;>simp only [MK.blocks,hag.b _ this]
theorem HA.more(h:HA fr nt ρ a){c:Cnt}(hsc:frSc c fr=true)(hsd:nt.ds.all (MK.sc c)=true)(hag:Agree c ρ ρ'):HA fr nt ρ' a:=
 ⟨h.defers.trans (marks_sc hag hsd),h.size,fun s v hs=>by rw [h.slots s v hs];exact(SV.sc_val hag (look_sc hsc hs)).1⟩
theorem HA.eval(h:HA fr nt ρ a):OpsOk ρ (look fr) a.eval:=
 ⟨fun s v hs=>h.slots s v hs,fun _=>rfl,fun _=>rfl⟩
theorem SV.onC_val{c:BE}(hc:c.den ρ=true)(v:SV):(v.onC c).val ρ=v.val ρ:=by
 unfold SV.onC;split
 ·rename_i c' v;split
  ·rename_i he;subst he;rw [SV.val,if_pos hc]
  ·split
   ·split
    ·rename_i he;subst he;simp only [SV.val,BE.den,hc,Bool.true_and]
    ·rfl
   ·rfl
 ·split
  ·rename_i b hb;subst hb;simp only [SV.val,hc,BE.den]
  ·rfl
 ·rfl
theorem SV.offC_val{c:BE}(hc:c.den ρ=false)(v:SV):(v.offC c).val ρ=v.val ρ:=by
 unfold SV.offC;split
 ·rename_i c' v;split
  ·rename_i he;subst he;simp [SV.val,hc]
  ·split
   ·split
    ·rename_i he;subst he;simp [SV.val,BE.den,hc]
    ·rfl
   ·rfl
 ·split
  ·rename_i b hb;subst hb;simp only [SV.val,hc,BE.den]
  ·rfl
 ·rfl
theorem SV.offC_sc{c:BE}{n:Cnt}{v:SV}(h:v.sc n=true):(v.offC c).sc n=true:=by
 unfold SV.offC;split
 ·rename_i c' v;split
  ·rfl
  ·split
   ·split
    ·rfl
    ·exact h
   ·exact h
 ·split
  ·rfl
  ·exact h
 ·exact h
theorem SV.onC_sc{c:BE}{n:Cnt}{v:SV}(h:v.sc n=true):(v.onC c).sc n=true:=by
 unfold SV.onC;split
 ·rename_i c' v;simp only [SV.sc,Bool.and_eq_true]at h;split
  ·exact h.2
  ·split
   ·split
    ·have h1:=h.1;simp only [BE.sc,Bool.and_eq_true]at h1;simp only [SV.sc,Bool.and_eq_true];exact⟨h1.2,h.2⟩
    ·simp only [SV.sc,Bool.and_eq_true];exact h
   ·simp only [SV.sc,Bool.and_eq_true];exact h
 ·split
  ·rfl
  ·exact h
 ·exact h
theorem look_map{f:SV→SV}{fr:List (Nat×SV)}{s:Nat}{v:SV}(h:look (fr.map fun x=>(x.1,f x.2)) s=some v): ∃u,look fr s=some u∧v=f u:=by
 induction fr with
 | nil=>cases h
 | cons x r ih=>
  obtain⟨t,u⟩:=x;have h':(if t==s then some (f u)else look (r.map fun x=>(x.1,f x.2)) s)=some v:=h;show∃u',(if t==s then some u else look r s)=some u'∧v=f u';split at h'
  ·rename_i ht;cases h';exact⟨u,by rw [if_pos ht],rfl⟩
  ·rename_i ht;obtain⟨u',h1,h2⟩:=ih h';exact⟨u',by rw [if_neg ht];exact h1,h2⟩
theorem HA.onC{st:St}(h:HA st.fr nt ρ a){c:BE}(hc:c.den ρ=true):HA (st.onC c).fr nt ρ a:=
 ⟨h.defers,h.size,fun s v hs=>by
  obtain⟨u,h1,rfl⟩:=look_map (f:=SV.onC c) hs;rw [SV.onC_val hc];exact h.slots s u h1⟩
theorem HA.offC{st:St}(h:HA st.fr nt ρ a){c:BE}(hc:c.den ρ=false):HA (st.offC c).fr nt ρ a:=
 ⟨h.defers,h.size,fun s v hs=>by
  obtain⟨u,h1,rfl⟩:=look_map (f:=SV.offC c) hs;rw [SV.offC_val hc];exact h.slots s u h1⟩
theorem HA.evalUnder(h:HA fr nt ρ a){c:BE}(hc:c.den ρ=true):OpsOk ρ (under c (look fr)) a.eval:=by
 refine⟨fun s v hs=>?_,fun _=>rfl,fun _=>rfl⟩;unfold under at hs;split at hs
 ·rename_i c' v' hl;have:=h.slots s _ hl;split at hs
  ·rename_i he;subst he;cases hs;show a.tmps.getD s undef=_;rw [this,SV.val,if_pos hc]
  ·split at hs
   ·rename_i x y _;split at hs
    ·rename_i he;subst he;cases hs;show a.tmps.getD s undef=_;rw [this];simp only [SV.val,BE.den,hc,Bool.true_and]
    ·cases hs;exact this
   ·cases hs;exact this
 ·exact h.slots s v hs
theorem closed_den{b:BE}(h:b.sc {}=true)(ρ:Env):b.den ρ=b.den env0:=by
 have e:Agree {} ρ {ρ with iv:=[],av:=[],bo:=[],bv:=[],vv:=[],pv:=[],lr:=[]}:=by
  constructor<;>first | rfl | (intro i hi;simp at hi)
 rw [BE.sc_den e h];clear h e;have key: ∀(x:E) (j:Nat),x.den {ρ with iv:=[],av:=[],bo:=[],bv:=[],vv:=[],pv:=[],lr:=[]} j=x.den env0 j:=by
  intro x
  induction x with
  | lit n=>intro j;rfl
  | var i=>intro j;rfl
  | avar i=>intro j;rfl
  | sel a i ha hi=>intro j;simp only [E.den,ha,hi]
  | bin o k a b ha hb=>intro j;simp only [E.den,ha,hb]
  | wrap k a ha=>intro j;simp only [E.den,ha]
  | upd a i v ha hi hv=>intro j;simp only [E.den,ha,hi,hv]
  | shift a o ha ho=>intro j;simp only [E.den,ha,ho]
  | spl a o n b ha ho hn hb=>intro j;simp only [E.den,ha,ho,hn,hb]
  | blk b=>intro j;rfl
  | kc n a ha=>intro j;simp only [E.den];rw [List.map_congr_left fun i _=>ha i]
  | rowl l=>intro j;rfl
  | at2 a i ha hi=>intro j;simp only [E.den,at2F,ha,hi]
  | put2 a i s ha hi hs=>intro j;simp only [E.den,put2F,ha,hi,hs]
  | sby s hs=>intro j;simp only [E.den,sbyF,hs]
  | srow s hs=>intro j;simp only [E.den,hs]
  | scd s hs=>intro j;simp only [E.den,strD,hs]
 have keyf: ∀x:E,x.den {ρ with iv:=[],av:=[],bo:=[],bv:=[],vv:=[],pv:=[],lr:=[]}=x.den env0:=fun x=>funext (key x)
 induction b with
 | lit b=>rfl
 | var i=>rfl
 | eq a b=>simp only [BE.den,key]
 | lt a b=>simp only [BE.den,key]
 | le a b=>simp only [BE.den,key]
 | nz a=>simp only [BE.den,key]
 | aeq n a b=>simp only [BE.den,key]
 | not a ih=>simp only [BE.den,ih]
 | and a b iha ihb=>simp only [BE.den,iha,ihb]
 | or a b iha ihb=>simp only [BE.den,iha,ihb]
 | ite c t e ihc iht ihe=>simp only [BE.den,ihc,iht,ihe]
 | seq a b=>simp only [BE.den,keyf]
 | vnil i=>rfl
theorem decideB_den{known:List BE}(hk: ∀b∈known,b.prop ρ)(b:BE):(decideB known b).den ρ=b.den ρ:=by
 unfold decideB;split
 ·rfl
 ·split
  ·rename_i hc;exact(closed_den hc ρ).symm
  split
  ·rename_i hc;have:=hk b (by simpa using hc);rw [←BE.den_iff]at this;rw [this];rfl
  ·split
   ·rename_i hc;have:=hk (bNot b) (by simpa using hc);rw [←BE.den_iff,bNot_den]at this;simp only [BE.den];cases hb:b.den ρ
    ·rfl
    ·rw [hb]at this;cases this
   ·rfl
theorem SV.fix_val{known:List BE}(hk: ∀b∈known,b.prop ρ)(v:SV):(v.fix known).val ρ=v.val ρ:=by
 unfold SV.fix;split
 ·rename_i c v;have hd:=decideB_den hk c;split
  ·rename_i e;rw [e]at hd;simp [SV.val,←hd,BE.den]
  ·rename_i e;rw [e]at hd;simp [SV.val,←hd,BE.den]
  ·rfl
 ·rename_i b;simp only [SV.val,decideB_den hk b]
 ·rfl
theorem SV.fixG_val{known:List BE}(hk: ∀b∈known,b.prop ρ){c:BE}(hc:c.den ρ=true)(v:SV):(v.fixG c known).val ρ=v.val ρ:=by
 have key: ∀b:BE,known.contains (bNot (bAnd c b))=true→b.den ρ=false:=by
  intro b hb;have:=hk _ (by simpa using hb);rw [←BE.den_iff,bNot_den,bAnd_den,hc]at this;simpa using this
 unfold SV.fixG;split
 ·split
  ·rename_i b hb;simp only [SV.val,key b hb,BE.den]
  ·rfl
 ·split
  ·rename_i b v hb;simp [SV.val,key b hb]
  ·rfl
 ·rfl
theorem HA.evalKnown(h:HA fr nt ρ a){known:List BE}(hk: ∀b∈known,b.prop ρ){g:Option BE}(hg:gden ρ g=true):OpsOk ρ (look? g known fr) a.eval:=by
 refine⟨fun s v hs=>?_,fun _=>rfl,fun _=>rfl⟩;cases g with
 | none=>
  simp only [look?,Option.map_eq_some_iff]at hs;obtain⟨u,hu,rfl⟩:=hs;rw [SV.fix_val hk];exact h.slots s u hu
 | some c=>
  simp only [look?,Option.map_eq_some_iff]at hs;obtain⟨u,hu,rfl⟩:=hs;rw [SV.fixG_val hk hg,SV.fix_val hk];exact(HA.evalUnder h hg).1 s u hu
theorem condOf_sound(h:HA fr nt ρ a){known:List BE}(hk: ∀b∈known,b.prop ρ){x:Operand}{b:BE}(hc:condOf fr known x=some b):a.eval x= .bool (b.den ρ):=by
 unfold condOf at hc;split at hc
 ·rename_i b' he;cases hc;rw [opEval_spec h.eval he,decideB_den hk];rfl
 ·cases hc
theorem yielded_bool{all:Array Oper}{tmps:Array Value}{j d:Nat}{oj:Oper}(hj:all[j]? =some oj)(hd:oj.dst=some d){b:Bool}(hv:tmps.getD d undef= .bool b):
  yielded all tmps j=some b:=by
 unfold yielded;simp only [hj,Option.bind_some,hd];rw [Array.getD_eq_getD_getElem?]at hv;cases ht:tmps[d]? with
 | none=>rw [ht]at hv;cases hv
 | some v=>
  rw [ht]at hv;simp only [Option.getD_some]at hv;subst hv;rfl
theorem yielded_undef{all:Array Oper}{tmps:Array Value}{j d:Nat}{oj:Oper}(hj:all[j]? =some oj)(hd:oj.dst=some d)(hv:tmps.getD d undef=undef):
  yielded all tmps j=none:=by
 unfold yielded;simp only [hj,Option.bind_some,hd];rw [Array.getD_eq_getD_getElem?]at hv;cases ht:tmps[d]? with
 | none=>rfl
 | some v=>
  rw [ht]at hv;simp only [Option.getD_some]at hv;subst hv;rfl
theorem guardOf_sound(h:HA fr nt ρ a){all:Array Oper}{o:Oper}{g:Option BE}(hg:guardOf all fr o=some g):
  Region.wanted o (yielded all a.tmps)=gden ρ g:=by
 unfold guardOf at hg;split at hg
 ·rename_i hn;cases hg;simp [Region.wanted,hn,gden]
 ·rename_i j want hn;split at hg
  ·rename_i oj hj;split at hg
   ·rename_i d hd;split at hg
    ·rename_i b hl;cases hg;have:=yielded_bool hj hd (h.slots d _ hl);simp only [Region.wanted,hn,this,gden];cases want
     ·simp only [Bool.false_eq_true,if_false,bNot_den];cases b.den ρ<;>rfl
     ·simp only [if_true];cases b.den ρ<;>rfl
    ·rename_i c b hl;cases hg;have h1:=h.slots d _ hl;simp only [SV.val]at h1;simp only [Region.wanted,hn,gden,bAnd_den];cases hc:c.den ρ with
     | true=>
      rw [hc,if_pos rfl]at h1;rw [yielded_bool hj hd h1];cases want
      ·simp only [Bool.false_eq_true,if_false,bNot_den,Bool.true_and];cases b.den ρ<;>rfl
      ·simp only [if_true,Bool.true_and];cases b.den ρ<;>rfl
     | false=>
      rw [hc,if_neg (by simp)]at h1;rw [yielded_undef hj hd h1];rfl
    ·rename_i hl;cases hg;rw [Region.wanted,hn];simp only [yielded_undef hj hd (h.slots d _ hl),gden,BE.den];rfl
    ·rename_i c hl;cases hg;have h1:=h.slots d _ hl;simp only [SV.val,ite_self]at h1;rw [Region.wanted,hn];simp only [yielded_undef hj hd h1,gden,BE.den];rfl
    ·cases hg
   ·cases hg
  ·cases hg
theorem guardAt_sound(h:HA fr nt ρ a){all:Array Oper}{known:List BE}(hk: ∀b∈known,b.prop ρ){o:Oper}{g:Option BE}(hg:guardAt all fr known o=some g):
  Region.wanted o (yielded all a.tmps)=gden ρ g:=by
 unfold guardAt at hg;split at hg
 ·rename_i b hb;rw [guardOf_sound h hb];have hd:=decideB_den hk b;split at hg
  ·rename_i he;cases hg;rw [he]at hd;exact hd.symm
  ·cases hg;exact hd.symm
 ·rw [guardOf_sound h hg]
theorem gvc_use{g:Option BE}{b:BE}(h:(gvc g b).prop ρ)(hg:gden ρ g=true):b.prop ρ:=by
 cases g with
 | none=>exact h
 | some c=>
  simp only [gvc,gden]at h hg;rw [←BE.den_iff,bOr_den,bNot_den,hg]at h;rw [←BE.den_iff];simpa using h
theorem sure_prop{b:BE}(h:b.sure=true)(ρ:Env):b.den ρ=true:=by
 simp only [BE.sure,Bool.and_eq_true]at h;rw [closed_den h.1];exact h.2
theorem wrapVc_sound{Post:Value→List HP→Prop}{g:Option BE}{known:List BE}{r:F}{L:Nat→LC}(hk: ∀b∈known,b.prop ρ): ∀{vcs:List BE},VC P Post (wrapVc g vcs known r) ρ L→
  (gden ρ g=true→∀b∈vcs,b.prop ρ)∧VC P Post r ρ L
 | [],h=>⟨fun _ b hb=>(by cases hb),h⟩
 | b::bs,h=>by
  unfold wrapVc at h;split at h
  ·rename_i hc;obtain⟨h1,h2⟩:=wrapVc_sound hk h;refine⟨fun hg x hx=>?_,h2⟩;rcases List.mem_cons.1 hx with rfl | hx
   ·rw [Bool.or_eq_true,Bool.or_eq_true]at hc;rcases hc with(hc | hc) | hc
    ·rw [beq_iff_eq]at hc;exact gvc_use (by rw [hc];rfl) hg
    ·exact gvc_use (hk _ (by simpa using hc)) hg
    ·exact gvc_use ((BE.den_iff _ _).1 (sure_prop hc _)) hg
   ·exact h1 hg x hx
  ·simp only [VC,Need]at h;obtain⟨h1,h2⟩:=wrapVc_sound hk (h.2 h.1);refine⟨fun hg x hx=>?_,h2⟩;rcases List.mem_cons.1 hx with rfl | hx
   ·exact gvc_use h.1 hg
   ·exact h1 hg x hx
theorem optAll_vals{look:Nat→Option SV}{α:Type}{f:α→Option SV}{g:α→Sem Value}(hf: ∀x v,f x=some v→(g x).run P w= .ok (v.val ρ) w): ∀(xs:List α) (vs:List SV),optAll (xs.map f)=some vs→
  (xs.mapM g).run P w= .ok (SV.vals ρ vs) w
 | [],vs,he=>by simp [optAll]at he;subst he;simp [SV.vals]
 | x::r,vs,he=>by
  simp only [List.map_cons]at he;cases hx:f x with
  | none=>rw [hx]at he;simp [optAll]at he
  | some v=>
   rw [hx]at he;simp only [optAll,Option.map_eq_some_iff]at he;obtain⟨rs,hrs,rfl⟩:=he;have:=optAll_vals (look:=look) hf r rs hrs;simp [List.mapM_cons,hf x v hx,this,SV.vals]
def resGo(tmps:Array Value):ResultVar→Sem Value
 | .tmp t=>pure (tmps.getD t undef)
 | .cell c t=>do loadVar t (←asAddr (tmps.getD c undef))
theorem results_eq(fn:Func)(tmps:Array Value):results fn tmps=(do let vs←fn.results.mapM (resGo tmps);pure (if h:vs.size=1 then vs[0]else .tuple vs)):=by
 unfold results;congr 2
theorem resAll_sound{T:List TI}(hT:checkT P T=true){st:St}(hw:HW Fs w0 st ρ w)(ha:HA st.fr nt ρ a){fn:Func}{v:SV}(hv:resAll T st fn=some v):
  (results fn a.tmps).run P w= .ok (v.val ρ) w:=by
 obtain⟨S,hS⟩:=hw.own;have one: ∀(x:ResultVar) (u:SV),resOne T st x=some u→
   (resGo a.tmps x).run P w= .ok (u.val ρ) w:=by
  intro x u hx;unfold resGo;cases x with
  | tmp t=>
   have:=ha.slots t u hx;simp only [this,Sem.run_pure]
  | cell c t=>
   simp only [resOne]at hx;split at hx
   ·rename_i ti y hti hy;split at hx
    ·rename_i r hr;split at hx
     ·rename_i he;cases hx;obtain⟨rfl,hi⟩:=tlook_spec hT hti;have hrd:Reads st.hp ρ w S r.rd:=by
       intro j _ ck hj;refine(hS.at_ j (ck.den ρ) ?_).1;rw [List.getElem?_append_left (by simpa using (List.getElem?_eq_some_iff.1 hj).1),List.getElem?_map,hj];rfl
      have h1:=(loadSym_sound hi hr hrd (by rw [List.isEmpty_iff.1 he];intro b hb;cases hb)).1;have h2:=ha.slots c y hy;simp only [h2];unfold Instr.loadAt at h1;cases hval:y.val ρ with
      | pointer p=>
       cases p with
       | some ad=>
        rw [hval]at h1;simpa [Instr.sureAddr,asAddr] using h1
       | none=>rw [hval]at h1;simp [Instr.sureAddr]at h1
      | _=>rw [hval]at h1;simp [Instr.sureAddr]at h1
     ·cases hx
    ·cases hx
   ·cases hx
 unfold resAll at hv;have key: ∀vs,optAll (fn.results.toList.map (resOne T st))=some vs→
   (fn.results.mapM (resGo a.tmps)).run P w= .ok (SV.vals ρ vs).toArray w:=by
  intro vs hvs;have:=optAll_vals (look:=fun _=>none) one _ vs hvs;rw [Array.mapM_eq_mapM_toList];simp [this]
 split at hv
 ·rename_i u hu;cases hv;have:=key _ hu;rw [results_eq];simp only [Sem.run_bind];rw [this];simp [SV.vals]
 ·rename_i vs hne hvs;cases hv;have:=key _ hvs;rw [results_eq];simp only [Sem.run_bind];rw [this];have hl:(SV.vals ρ vs).length≠1:=by
   intro h1;have: ∀l:List SV,(SV.vals ρ l).length=l.length:=by
    intro l;induction l with
    | nil=>rfl
    | cons x r ih=>simp [SV.vals,ih]
   rw [this]at h1;obtain⟨x,rfl⟩:=List.length_eq_one_iff.1 h1;exact hne x rfl
  simp [hl,SV.val]
 ·cases hv
end
end Go.RX
