/- A reflective symbolic executor, part 22: nil slices, steps of the memory. -/
import Derived.Test.YtfnaoeleljhmhaaGreatRxU

namespace Go.RX
section
variable {P:Program} {C:Ctx} {Post:Value→List HP→Prop} {Fs:List HP} {w0:World} {ρ:Env} {a:Act} {w:World}
theorem Env.le_addB(ρ:Env)(b:Nat):Env.Le ρ (ρ.addB b):=by rw [Env.addB_eq];exact Env.le_ext _ _
theorem Env.le_addV(ρ:Env)(v:V1):Env.Le ρ (ρ.addV v):=by rw [Env.addV_eq];exact Env.le_ext _ _
theorem Lens.addB{c:Cnt}(h:Lens ρ c)(b:Nat):Lens (ρ.addB b) {c with b:=c.b+1}:=
 ⟨by simp [Env.addB,h.b],h.v,h.i,h.a,h.bo,h.p,h.r⟩
theorem Lens.addV{c:Cnt}(h:Lens ρ c)(v:V1):Lens (ρ.addV v) {c with v:=c.v+1}:=
 ⟨h.b,by simp [Env.addV,h.v],h.i,h.a,h.bo,h.p,h.r⟩
theorem getD_addV(ρ:Env)(v:V1){n:Nat}(h:ρ.vv.length=n):(ρ.addV v).vv.getD n V1.nil=v:=by
 subst h;simp [Env.addV]
theorem getD_addB'(ρ:Env)(b:Nat){n:Nat}(h:ρ.bv.length=n):(ρ.addB b).bv.getD n 0=b:=by
 subst h;simp [Env.addB]
theorem cellsL_put{ρ:Env}: ∀{cs:List SV} {j:Nat} {x y:SV},cs[j]? =some x→SV.cells ρ y=SV.cells ρ x→SV.cellsL ρ (cs.set j y)=SV.cellsL ρ cs
 | [],j,x,y,h,_=>by simp at h
 | c::cs,0,x,y,h,e=>by
  simp only [List.getElem?_cons_zero,Option.some.injEq]at h;subst h;simp only [List.set_cons_zero,SV.cellsL,e]
 | c::cs,j+1,x,y,h,e=>by
  simp only [List.getElem?_cons_succ]at h;simp only [List.set_cons_succ,SV.cellsL,cellsL_put h e]
theorem scL_set{c:Cnt}: ∀{cs:List SV} {j:Nat} {y:SV},SV.scL c cs=true→y.sc c=true→SV.scL c (cs.set j y)=true
 | [],j,y,h,_=>by simpa using h
 | x::cs,0,y,h,e=>by
  simp only [SV.scL,Bool.and_eq_true]at h;simp only [List.set_cons_zero,SV.scL,Bool.and_eq_true];exact⟨e,h.2⟩
 | x::cs,j+1,y,h,e=>by
  simp only [SV.scL,Bool.and_eq_true]at h;simp only [List.set_cons_succ,SV.scL,Bool.and_eq_true];exact⟨h.1,scL_set h.2 e⟩
theorem HW.own_more{st:St}{ρ':Env}(h:HW Fs w0 st ρ w)(hle:Env.Le ρ ρ'):Owns (st.hp.map (Ck.den ρ')++Fs) w:=by
 rw [←Cks_sc (Env.Le.agree h.lens hle) h.sch];exact h.own
theorem nilGo_sound{T:List TI}{st st':St}{t:Nat}(hg:nilGo T st t=some st')(h:HW Fs w0 st ρ w):
  HW Fs w0 st' (ρ.addV ⟨.slice none 0 0,rfl⟩) w∧st'.fr=st.fr∧st'.nt=st.nt∧st'.fn=st.fn∧st'.cnt={st.cnt with v:=st.cnt.v+1}∧∃ck,st'.hp=st.hp++[ck]:=by
 unfold nilGo at hg;split at hg
 ·rename_i ti cols hti hcols;split at hg
  ·rename_i hsc;cases hg;have hle:=Env.le_addV ρ ⟨.slice none 0 0,rfl⟩;have hcl:st.cnt.le {st.cnt with v:=st.cnt.v+1}:=by constructor<;>simp
   refine⟨⟨h.lens.addV _,frSc_mono hcl h.scf,?_,BEs_mono hcl h.sck,fun b hb=>?_,?_,h.same,dsc_mono hcl h.scd⟩,rfl,rfl,rfl,rfl,_,rfl⟩
   ·rw [List.all_append,Bool.and_eq_true];refine⟨Cks_mono hcl h.sch,?_⟩;simp only [List.all_cons,List.all_nil,Ck.sc,E.sc,Bool.and_true,Bool.and_eq_true,Nat.blt_eq];exact⟨Nat.lt_succ_self _,cols_mono hcl hsc⟩
   ·exact(BE.sc_prop (Env.Le.agree h.lens hle) (List.all_eq_true.1 h.sck b hb)).1 (h.kn b hb)
   ·rw [List.map_append];refine Owns.add (h.own_more hle) _ (fun _=>False) (Nat.le_refl _) (fun _ _=>rfl) ?_ (fun _ hk=>hk.elim);simp only [Ck.den,getD_addV ρ _ h.lens.v];refine⟨?_,fun k=>by simp [Value.ownBlock]⟩;simp only [if_true];exact ownsAt_nil w t ti.size
  ·cases hg
 ·cases hg
theorem Owns.weaken{a b:List HP}{w:World}{S:Nat→Nat→Prop}(h:Sep (a++b) S w)(i:Nat)(h0 h':HP)(hi:a[i]? =some h0)(hw:h'.wr=true→h0.wr=true)
  (S':Nat→Prop) (hsub: ∀k,S' k→S i k) (hp:h'.p w S'):Owns (a.set i h'++b) w:=by
 have hlt:i<a.length:=(List.getElem?_eq_some_iff.1 hi).1;have hi':(a++b)[i]? =some h0:=by rw [List.getElem?_append_left hlt];exact hi
 have hold: ∀(j:Nat) x,(a.set i h'++b)[j]? =some x→∃y,(a++b)[j]? =some y∧(x.wr=true→y.wr=true)∧(j≠i→x=y)∧(j=i→x=h'):=by
  intro j x hx;by_cases hj:j=i
  ·subst hj;rw [List.getElem?_append_left (by simpa using hlt),List.getElem?_set_self hlt]at hx;cases hx;exact⟨h0,hi',hw,fun h=>absurd rfl h,fun _=>rfl⟩
  ·refine⟨x,?_,id,fun _=>rfl,fun h=>absurd h hj⟩;by_cases hja:j<a.length
   ·rw [List.getElem?_append_left (by simpa using hja),List.getElem?_set_ne (Ne.symm hj)]at hx;rw [List.getElem?_append_left hja];exact hx
   ·rw [List.getElem?_append_right (by simp;omega),List.length_set]at hx;rw [List.getElem?_append_right (by omega)];exact hx
 have hsubS: ∀j k,(if j=i then S' k else S j k)→S j k:=by
  intro j k hk;split at hk
  ·rename_i hj;subst hj;exact hsub k hk
  ·exact hk
 refine⟨fun j k=>if j=i then S' k else S j k,⟨fun j x hx=>?_,fun j k x y hne hx hy hwr q h1 h2=>?_⟩⟩
 ·obtain⟨y,hy,_,h1,h2⟩:=hold j x hx;obtain⟨hpy,hb⟩:=h.at_ j y hy;refine⟨?_,fun k hk=>hb k (hsubS j k hk)⟩;by_cases hj:j=i
  ·subst hj;rw [h2 rfl];simp only [if_true];exact hp
  ·rw [h1 hj];simp only [hj,if_false];exact hpy
 ·obtain⟨x',hx',wx,_,_⟩:=hold j x hx;obtain⟨y',hy',wy,_,_⟩:=hold k y hy;exact h.apart j k x' y' hne hx' hy' (hwr.imp wx wy) q (hsubS j q h1) (hsubS k q h2)
theorem ownGo_sound{st st':St}{x:SV}{ty:Nat}{wr:Wrap}(hg:ownGo st x ty=some (st',wr))(h:HW Fs w0 st ρ w):
  ∃vcs hone,wr= .cut vcs∧HW Fs w0 st' (ρ.addV ⟨x.val ρ,hone⟩) w∧st'.fr=st.fr∧st'.nt=st.nt∧st'.fn=st.fn∧st'.cnt={st.cnt with v:=st.cnt.v+1}:=by
 unfold ownGo at hg;split at hg
 case h_2=>cases hg
 rename_i b ix s n m;split at hg
 case h_2=>cases hg
 rename_i j b' cs q hfa hix hn;split at hg
 case h_2=>cases hg
 rename_i ki kl a hro;split at hg
 case isFalse=>cases hg
 rename_i hc;obtain⟨rfl,rfl,hq,hrep,hqb,hsa⟩:=hc;cases hg;have hnn:n.den ρ 0=(q:Int):=litNat_den (ρ:=ρ) hn;have hii:ix.den ρ 0=((0:Nat):Int):=litNat_den (ρ:=ρ) hix;have hxv:(SV.sl b ix 1 n n).val ρ= .slice (some ⟨ρ.bv.getD b 0,0,none⟩) q q:=by simp [SV.val,hnn,hii]
 obtain⟨hj,hat⟩:=findAt_spec hfa;simp only [Ck.isAt,beq_iff_eq]at hat;subst hat;obtain⟨S,hS⟩:=h.own;have hrd:Reads st.hp ρ w S [j]:=by
  intro j _ ck hj;refine(hS.at_ j (ck.den ρ) ?_).1;rw [List.getElem?_append_left (by simpa using (List.getElem?_eq_some_iff.1 hj).1),List.getElem?_map,hj];rfl
 have hSr:=hrd j (by simp) _ hj;have hcells:SV.cellsL ρ cs=segCells ki q (a.den ρ):=by
  have hcx:=rowOf_spec (ρ:=ρ) hro;rw [hrep,List.length_replicate,mkI_rep]at hcx;exact hcx
 have hlen:(SV.cellsL ρ cs).length=q:=by rw [hcells,segCells_length]
 have hS':(rowHP (ρ.bv.getD b 0) true (SV.cellsL ρ cs)).p w (S j):=hSr;have hown:=row_owns (t:=ty) hS' (by rw [hlen];unfold maxLen;omega);rw [hlen,hcells]at hown;refine⟨[],by rw [hxv];rfl,rfl,?_,rfl,rfl,rfl,rfl⟩;have hone:((SV.sl b ix 1 n n).val ρ).oneCell'=true:=by rw [hxv];rfl
 have hle:=Env.le_addV ρ ⟨(SV.sl b ix 1 n n).val ρ,hone⟩;have hag:=Env.Le.agree h.lens hle;have hcl:st.cnt.le {st.cnt with v:=st.cnt.v+1}:=by constructor<;>simp
 refine⟨h.lens.addV _,frSc_mono hcl h.scf,?_,BEs_mono hcl h.sck,fun b hb=>(BE.sc_prop hag (List.all_eq_true.1 h.sck b hb)).1 (h.kn b hb),?_,h.same,dsc_mono hcl h.scd⟩
 ·refine List.all_eq_true.2 fun z hz=>?_
  rcases List.mem_or_eq_of_mem_set hz with hz | rfl
  ·exact Ck.sc_mono hcl (List.all_eq_true.1 h.sch z hz)
  ·simp only [Ck.sc,Bool.and_eq_true,Nat.blt_eq,List.all_cons,List.all_nil,Col.sc,CK.sc,E.sc,and_true];exact⟨Nat.lt_succ_self _,E.sc_mono hcl hsa⟩
 ·simp only [List.map_set];have hmap:st.hp.map (Ck.den (ρ.addV ⟨(SV.sl b ix 1 n n).val ρ,hone⟩))=st.hp.map (Ck.den ρ):=(Cks_sc hag h.sch).symm;rw [hmap];have hden:(Ck.sli true st.cnt.v ty 1 (.lit (q:Int)) [⟨.int ki,1,a⟩]).den (ρ.addV ⟨(SV.sl b ix 1 n n).val ρ,hone⟩)=sliHP true ty 1 (.slice (some ⟨ρ.bv.getD b 0,0,none⟩) q q) q (segCells ki q (a.den ρ)):=by
   simp only [Ck.den,getD_addV ρ _ h.lens.v];rw [tab_single,←E.sc_den hag hsa];have hqd: ∀r:Env,((E.lit (q:Int)).den r 0).toNat=q:=fun r=>by show Int.toNat (q:Int)=q;omega
   rw [hqd,hxv]
  rw [hden];refine Owns.weaken hS j _ _ (by rw [List.getElem?_map,hj];rfl) (fun _=>rfl) (fun k=>(Value.slice (some ⟨ρ.bv.getD b 0,0,none⟩) q q).ownBlock=some k∧(true=true∨0<q)) (fun k hk=>?_) ⟨?_,fun k=>Iff.rfl⟩
  ·refine(hS'.1 k).2 ?_;have:=hk.1;simp only [Value.ownBlock,Option.some.injEq]at this
   first | exact this.symm | exact this
  ·simp only [if_true];exact hown
theorem nilAt_nil{T:List TI}{st st':St}{x:NilAt}(hg:nilAt T st x=some (st',.nil))(h:HW Fs w0 st ρ w)(ha:HA st.fr st.nt ρ a):
  HW Fs w0 st' (ρ.addV ⟨.slice none 0 0,rfl⟩) w∧HA st'.fr st'.nt (ρ.addV ⟨.slice none 0 0,rfl⟩) a∧st'.nt=st.nt∧st'.fn=st.fn:=by
 have hle:=Env.le_addV ρ ⟨.slice none 0 0,rfl⟩;have hag:=Env.Le.agree h.lens hle;have ha':=ha.more h.scf h.scd hag;cases x with
 | slot s t=>
  simp only [nilAt]at hg;split at hg
  ·rename_i hl;rw [Option.map_eq_some_iff]at hg;obtain⟨s1,hs1,hpe⟩:=hg;cases hpe;obtain⟨h1,e1,e2,e3,e4,ck,e5⟩:=nilGo_sound hs1 h;have hv:(SV.vv st.cnt.v).sc s1.cnt=true:=by rw [e4];simp [SV.sc]
   refine⟨h1.put hv,⟨by rw [(put_rest _ _ _).2.2.2.1,e2];exact ha'.defers,by rw [(put_rest _ _ _).2.2.2.1,e2];exact ha.size,fun q v hq=>?_⟩,by rw [(put_rest _ _ _).2.2.2.1,e2],by rw [(put_rest _ _ _).2.2.2.2,e3]⟩;simp only [St.put]at hq;unfold look at hq;split at hq
   ·rename_i hqs;rw [beq_iff_eq]at hqs;subst hqs;cases hq;rw [ha.slots _ _ hl];simp only [SV.val,getD_addV ρ _ h.lens.v]
   ·rename_i hqs;rw [look_filter s _ q (fun e=>hqs (by simp [e])),e1]at hq;exact ha'.slots q v hq
  ·cases hg
 | cell i j t=>
  simp only [nilAt]at hg;split at hg
  ·rename_i b wr cs hi;split at hg
   ·rename_i hj;rw [Option.map_eq_some_iff]at hg;obtain⟨s1,hs1,hpe⟩:=hg;cases hpe;obtain⟨h1,e1,e2,e3,e4,ck,e5⟩:=nilGo_sound hs1 h;have hv:(SV.vv st.cnt.v).sc s1.cnt=true:=by rw [e4];simp [SV.sc]
    have hi':s1.hp[i]? =some (.row b wr cs):=by
     rw [e5,List.getElem?_append_left (List.getElem?_eq_some_iff.1 hi).1];exact hi
    have hsc1:=List.all_eq_true.1 h1.sch _ (List.mem_of_getElem? hi');simp only [Ck.sc,Bool.and_eq_true]at hsc1;have hden:(Ck.row b wr (cs.set j (.vv st.cnt.v))).den (ρ.addV ⟨.slice none 0 0,rfl⟩)=(Ck.row b wr cs).den (ρ.addV ⟨.slice none 0 0,rfl⟩):=by
     simp only [Ck.den];rw [cellsL_put hj];simp only [SV.cells,getD_addV ρ _ h.lens.v]
    have hmap:(s1.hp.set i (.row b wr (cs.set j (.vv st.cnt.v)))).map (Ck.den (ρ.addV ⟨.slice none 0 0,rfl⟩))=s1.hp.map (Ck.den (ρ.addV ⟨.slice none 0 0,rfl⟩)):=by
     rw [List.map_set,hden];apply List.ext_getElem?;intro q;rw [List.getElem?_set];split
     ·rename_i hq;subst hq;split
      ·rw [List.getElem?_map,hi'];rfl
      ·rename_i hlt;rw [List.getElem?_eq_none (by omega)]
     ·rfl
    refine⟨⟨h1.lens,h1.scf,?_,h1.sck,h1.kn,by rw [hmap];exact h1.own,h1.same,h1.scd⟩,⟨by rw [e2];exact ha'.defers,by rw [e2];exact ha.size,by rw [e1];exact ha'.slots⟩,e2,e3⟩;refine List.all_eq_true.2 fun q hq=>?_
    rcases List.mem_or_eq_of_mem_set hq with hq | rfl
    ·exact List.all_eq_true.1 h1.sch q hq
    ·simp only [Ck.sc,Bool.and_eq_true];exact⟨hsc1.1,scL_set hsc1.2 hv⟩
   ·cases hg
  ·cases hg
 | cut s md=>
  simp only [nilAt]at hg;split at hg
  ·rw [Option.map_eq_some_iff]at hg;obtain⟨y,hy,he⟩:=hg;exfalso;unfold cutGo at hy;split at hy
   ·split at hy
    ·split at hy
     ·cases hy;cases he
     ·cases hy
    ·cases hy
   ·cases hy
  ·cases hg
 | own s t=>
  simp only [nilAt]at hg;split at hg
  ·rw [Option.map_eq_some_iff]at hg;obtain⟨y,hy,he⟩:=hg;exfalso;obtain⟨_,_,hw,_⟩:=ownGo_sound (wr:=y.2) (st':=y.1) hy h;simp only [Prod.mk.injEq]at he;rw [he.2]at hw;cases hw
  ·cases hg
 | cutCell i j md=>
  simp only [nilAt]at hg;split at hg
  ·split at hg
   ·split at hg
    ·rename_i st1 wr1 hy;exfalso;have:wr1≠ .nil:=by
      unfold cutGo at hy;split at hy
      ·split at hy
       ·split at hy
        ·cases hy;simp
        ·cases hy
       ·cases hy
      ·cases hy
     split at hg
     ·split at hg
      ·simp only [Option.some.injEq,Prod.mk.injEq]at hg;exact this hg.2
      ·cases hg
     ·cases hg
    ·cases hg
   ·cases hg
  ·cases hg
 | marks=>simp [nilAt]at hg
 | mark=>
  simp only [nilAt]at hg;split at hg
  ·split at hg
   ·simp at hg
   ·cases hg
  ·simp at hg
  ·cases hg
 | swap s i=>
  simp only [nilAt]at hg;split at hg
  ·simp at hg
  ·cases hg
theorem Owns.merge_marks{a b:List HP}{w:World}{i j k:Nat}{l:List Nat}(h:Owns (a++b) w)(hi:a[i]? =some (dfrHP k))(hj:a[j]? =some (dfrsHP l))(hij:i≠j):
  Owns ((a.set i HP.emp).set j (dfrsHP (k::l))++b) w:=by
 obtain⟨S,hS⟩:=h;have hil:i<a.length:=(List.getElem?_eq_some_iff.1 hi).1;have hjl:j<a.length:=(List.getElem?_eq_some_iff.1 hj).1;have hi2:(a++b)[i]? =some (dfrHP k):=by rw [List.getElem?_append_left hil];exact hi
 have hj2:(a++b)[j]? =some (dfrsHP l):=by rw [List.getElem?_append_left hjl];exact hj
 obtain⟨⟨p1,p2⟩,p3⟩:=hS.at_ i _ hi2;obtain⟨⟨q1,q2,q3⟩,q4⟩:=hS.at_ j _ hj2;have hkl:w.heap[k]? =some (.deferred (some [])):=p2;have hap: ∀x,S i x→¬S j x:=hS.apart i j _ _ hij hi2 hj2 (.inl rfl);have old: ∀(m:Nat) x,((a.set i HP.emp).set j (dfrsHP (k::l))++b)[m]? =some x→(m=i∧x=HP.emp)∨(m=j∧x=dfrsHP (k::l))∨(m≠i∧m≠j∧(a++b)[m]? =some x):=by
  intro m x hx;by_cases hma:m<a.length
  ·rw [List.getElem?_append_left (by simpa using hma)]at hx;by_cases hmj:m=j
   ·subst hmj;rw [List.getElem?_set_self (by simpa using hma)]at hx;cases hx;exact .inr (.inl ⟨rfl,rfl⟩)
   ·rw [List.getElem?_set_ne (Ne.symm hmj)]at hx;by_cases hmi:m=i
    ·subst hmi;rw [List.getElem?_set_self hma]at hx;cases hx;exact .inl ⟨rfl,rfl⟩
    ·rw [List.getElem?_set_ne (Ne.symm hmi)]at hx;exact .inr (.inr ⟨hmi,hmj,by rw [List.getElem?_append_left hma];exact hx⟩)
  ·rw [List.getElem?_append_right (by simp;omega)]at hx;simp only [List.length_set]at hx;exact .inr (.inr ⟨by omega,by omega,by rw [List.getElem?_append_right (by omega)];exact hx⟩)
 refine⟨fun m x=>if m=i then False else if m=j then S i x∨S j x else S m x,⟨fun m x hx=>?_,fun m n x y hmn hx hy hwr z h1 h2=>?_⟩⟩
 ·rcases old m x hx with⟨rfl,rfl⟩ | ⟨rfl,rfl⟩ | ⟨h1,h2,h3⟩
  ·simp only [if_true];exact⟨fun _ h=>h,fun _ h=>h.elim⟩
  ·simp only [Ne.symm hij,if_false,if_true];refine⟨⟨fun x=>?_,?_,fun b hb=>?_⟩,fun x hx=>hx.elim (p3 x) (q4 x)⟩
   ·simp only [p1,q1,List.mem_cons]
   ·exact List.nodup_cons.2 ⟨fun hk=>hap k ((p1 k).2 rfl) ((q1 k).2 hk),q2⟩
   ·rcases List.mem_cons.1 hb with rfl | hb
    ·exact hkl
    ·exact q3 b hb
  ·simp only [h1,h2,if_false];exact hS.at_ m x h3
 ·rcases old m x hx with⟨rfl,rfl⟩ | ⟨rfl,rfl⟩ | ⟨h3,h4,h5⟩
  ·simp only [if_true]at h1
  ·simp only [Ne.symm hij,if_false,if_true]at h1;rcases old n y hy with⟨rfl,rfl⟩ | ⟨rfl,rfl⟩ | ⟨h6,h7,h8⟩
   ·simp only [if_true]at h2
   ·exact hmn rfl
   ·simp only [h6,h7,if_false]at h2;exact h1.elim (fun h1=>hS.apart i n _ _ (Ne.symm h6) hi2 h8 (.inl rfl) z h1 h2) (fun h1=>hS.apart m n _ _ (Ne.symm h7) hj2 h8 (.inl rfl) z h1 h2)
  ·simp only [h3,h4,if_false]at h1;rcases old n y hy with⟨rfl,rfl⟩ | ⟨rfl,rfl⟩ | ⟨h6,h7,h8⟩
   ·simp only [if_true]at h2
   ·simp only [Ne.symm hij,if_false,if_true]at h2;exact h2.elim (fun h2=>hS.apart m i _ _ h3 h5 hi2 (.inr rfl) z h1 h2) (fun h2=>hS.apart m n _ _ h4 h5 hj2 (.inr rfl) z h1 h2)
   ·simp only [h6,h7,if_false]at h2;exact hS.apart m n _ _ hmn h5 h8 hwr z h1 h2
theorem sub_views{s:Nat}{v x:Value}{n:E}{p:Part}{cs:List Value}(h:SubAt ρ s v x n p)(hv:World.views w v (n.den ρ 0).toNat cs):
  World.views w x (p.len.den ρ 0).toNat ((cs.drop ((p.lo.den ρ 0).toNat*s)).take ((p.len.den ρ 0).toNat*s)):=by
 obtain⟨h1,h2,h3,a,c,k,rfl,hc,rfl,hk⟩:=h;obtain⟨a',m,c',he,rfl,hmc,hnil,hr⟩:=hv;cases he;have htop:(p.lo.den ρ 0).toNat+(p.len.den ρ 0).toNat≤((p.mx.map fun m=>m.den ρ 0).map Int.toNat).getD c∨(p.len.den ρ 0).toNat=0:=by
  cases hm:(p.mx.map fun m=>m.den ρ 0)with
  | none=>simp only [Option.map_none,Option.getD_none];omega
  | some m=>have:=h3 m hm;simp only [Option.map_some,Option.getD_some];omega
 refine⟨_,_,_,rfl,rfl,by omega,?_,?_⟩
 ·intro hn;cases a with
  | none=>have:=hnil rfl;omega
  | some a=>cases hn
 ·intro ad had;rw [Option.map_eq_some_iff]at had;obtain⟨a0,rfl,rfl⟩:=had;obtain⟨hs,hcell⟩:=hr a0 rfl;refine⟨fun _=>addr_spot _ _ (hs (by omega)),fun j u hu=>?_⟩;rw [List.getElem?_take]at hu;split at hu
  ·rename_i hj;have hN:(p.len.den ρ 0).toNat≠0:=by intro h;rw [h,Nat.zero_mul]at hj;omega
   rw [List.getElem?_drop]at hu;rw [hk (.inl (by omega)),addr_add_add];exact hcell _ _ hu
  ·cases hu
theorem sub_block{s:Nat}{v x:Value}{n:E}{p:Part}(h:SubAt ρ s v x n p):x.ownBlock=v.ownBlock:=by
 obtain⟨h1,h2,h3,a,c,k,rfl,hc,rfl,hk⟩:=h;cases a with
 | none=>rfl
 | some a=>
  simp only [Option.map_some,Value.ownBlock,Addr.add];split<;>rfl
theorem cutGo_sound{st st':St}{x:SV}{md:Bool}{wr:Wrap}(hg:cutGo st x md=some (st',wr))(h:HW Fs w0 st ρ w):
  ∃vcs hone,wr= .cut vcs∧((∀b∈vcs,b.prop ρ)→HW Fs w0 st' (ρ.addV ⟨x.val ρ,hone⟩) w)∧st'.fr=st.fr∧st'.nt=st.nt∧st'.fn=st.fn∧st'.cnt={st.cnt with v:=st.cnt.v+1}∧
   ∃j md0 v0 t s n cols ck,st.hp[j]? =some (.sli md0 v0 t s n cols)∧st'.hp=st.hp.set j ck:=by
 unfold cutGo at hg;split at hg
 ·rename_i r hr;split at hg
  ·rename_i cols hcols;split at hg
   ·rename_i hc;obtain⟨hw,hmd,hs1,hs2⟩:=hc;cases hg;have hone:(x.val ρ).oneCell'=true:=by
     have hok:=ρ.ok;cases x with
     | vv i=>exact hok.vvD i
     | vsub v cs s=>exact subSlices_one _ _ _ _ (ρ.vv.getD v V1.nil).one
     | _=>simp [rootSV]at hr
    obtain⟨S,hS⟩:=h.own;have hrd:Reads st.hp ρ w S [r.j]:=by
     intro j _ ck hj;refine(hS.at_ j (ck.den ρ) ?_).1;rw [List.getElem?_append_left (by simpa using (List.getElem?_eq_some_iff.1 hj).1),List.getElem?_map,hj];rfl
    have hj:st.hp[r.j]? =some (.sli r.md r.v r.t r.s r.n r.cols):=by
     unfold rootSV at hr;split at hr
     ·split at hr
      ·rename_i hf;cases hr;obtain⟨hj,hat⟩:=findOwn_spec hf;simp only [Ck.ownOf,beq_iff_eq]at hat;subst hat;exact hj
      ·cases hr
     ·split at hr
      ·rename_i hf;split at hr
       ·rename_i hss;cases hr;obtain⟨hj,hat⟩:=findOwn_spec hf;simp only [Ck.ownOf,beq_iff_eq]at hat;subst hat;exact hj
       ·cases hr
      ·cases hr
     ·cases hr
    refine⟨_,hone,rfl,fun hvc=>?_,rfl,rfl,rfl,rfl,r.j,_,_,_,_,_,_,_,hj,rfl⟩;obtain⟨v1,v2⟩:=mem_app hvc;have v2:=bLe'_prop v2;simp only [E.den]at v2;obtain⟨_,hsub⟩:=rootSV_spec hr hrd v1;have hle:=Env.le_addV ρ ⟨x.val ρ,hone⟩;have hag:=Env.Le.agree h.lens hle;have hcl:st.cnt.le {st.cnt with v:=st.cnt.v+1}:=by constructor<;>simp
    have hSr:=hrd r.j (by simp) _ hj;refine⟨h.lens.addV _,frSc_mono hcl h.scf,?_,BEs_mono hcl h.sck,fun b hb=>(BE.sc_prop hag (List.all_eq_true.1 h.sck b hb)).1 (h.kn b hb),?_,h.same,dsc_mono hcl h.scd⟩
    ·refine List.all_eq_true.2 fun q hq=>?_
     rcases List.mem_or_eq_of_mem_set hq with hq | rfl
     ·exact Ck.sc_mono hcl (List.all_eq_true.1 h.sch q hq)
     ·simp only [Ck.sc,Bool.and_eq_true,Nat.blt_eq];exact⟨⟨Nat.lt_succ_self _,E.sc_mono hcl hs1⟩,cols_mono hcl hs2⟩
    ·simp only [List.map_set];have hmap:st.hp.map (Ck.den (ρ.addV ⟨x.val ρ,hone⟩))=st.hp.map (Ck.den ρ):=(Cks_sc hag h.sch).symm;rw [hmap];have hden:(Ck.sli md st.cnt.v r.t r.s r.p.len cols).den (ρ.addV ⟨x.val ρ,hone⟩)=sliHP md r.t r.s (x.val ρ) (r.p.len.den ρ 0).toNat (tabCells ρ (r.p.len.den ρ 0).toNat cols):=by
      simp only [Ck.den,getD_addV ρ _ h.lens.v];rw [←E.sc_den hag hs1,←cols_sc hag hs2]
     rw [hden];obtain⟨e1,e2⟩:=shiftCols_spec hsub.lo hcols;have h2:=hsub.hi;have h1:=hsub.lo;have hcells:((tabCells ρ (r.n.den ρ 0).toNat r.cols).drop ((r.p.lo.den ρ 0).toNat*r.s)).take ((r.p.len.den ρ 0).toNat*r.s)=tabCells ρ (r.p.len.den ρ 0).toNat cols:=by
      rw [tabCells_eq,hw,tabF_cut (row_length ρ r.cols) _ _ _ (by omega),tabCells_eq];exact tabF_congr fun i _=>(e2 i).symm
     refine Owns.weaken hS r.j _ _ (by rw [List.getElem?_map,hj];rfl) (fun hwr=>hmd hwr) (fun k=>(x.val ρ).ownBlock=some k∧(md=true∨0<(r.p.len.den ρ 0).toNat)) (fun k hk=>?_) ⟨?_,fun k=>Iff.rfl⟩
     ·rw [sub_block hsub]at hk;refine(hSr.2 k).2 ⟨hk.1,hk.2.imp (fun h=>hmd h) fun h=>?_⟩;omega
     ·cases md with
      | true=>
       simp only [if_true];have hown:=hSr.1;rw [hmd rfl]at hown;simp only [if_true]at hown;have:=(ownsAt_part hsub v2 hown).1;rw [hcells]at this;exact this
      | false=>
       simp only [Bool.false_eq_true,if_false];have:=sub_views hsub (sli_views hSr).1;rw [hcells]at this;refine⟨?_,this⟩;rw [tab_length,e1,←hw]
   ·cases hg
  ·cases hg
 ·cases hg
theorem vcF_VC{L:Nat→LC}: ∀{vcs:List BE} {f:F} {ρ:Env},VC P Post (vcF vcs f) ρ L→(∀b∈vcs,b.prop ρ)∧VC P Post f ρ L
 | [],f,ρ,h=>⟨by simp,h⟩
 | b::r,f,ρ,h=>by
  obtain⟨h1,h2⟩:=h;obtain⟨h3,h4⟩:=vcF_VC (h2 h1);exact⟨fun c hc=>(List.mem_cons.1 hc).elim (fun e=>e▸h1) (h3 c),h4⟩
theorem swapAt_get(hp:List Ck)(i j:Nat): ∃σ:Nat→Nat,(∀a b,σ a=σ b→a=b)∧(∀k,k<hp.length→σ k<hp.length)∧(∀k,hp.length≤k→σ k=k)∧∀k,(swapAt hp i j)[k]? =hp[σ k]? :=by
 unfold swapAt;split
 ·rename_i d c hi hj;have li:=(List.getElem?_eq_some_iff.1 hi).1;have lj:=(List.getElem?_eq_some_iff.1 hj).1;refine⟨fun k=>if k=i then j else if k=j then i else k,fun a b=>?_,fun k hk=>?_,fun k hk=>?_,fun k=>?_⟩
  ·simp only;split<;>split<;>(try split)<;>(try split)<;>omega
  ·simp only;split
   ·exact lj
   ·split
    ·exact li
    ·exact hk
  ·simp only;rw [if_neg (by omega),if_neg (by omega)]
  ·simp only [List.getElem?_set,List.length_set];by_cases h1:k=i
   ·subst h1;by_cases h2:j=k
    ·subst h2;simp [li];exact(List.getElem?_eq_some_iff.1 hi).2.symm
    ·rw [if_neg h2,if_pos rfl,if_pos rfl,if_pos li,hj]
   ·by_cases h2:k=j
    ·subst h2;rw [if_pos rfl,if_pos lj,if_neg h1,if_pos rfl,hi]
    ·rw [if_neg (fun e=>h2 e.symm),if_neg (fun e=>h1 e.symm),if_neg h1,if_neg h2]
 ·exact⟨fun k=>k,fun _ _ h=>h,fun _ h=>h,fun _ _=>rfl,fun _=>rfl⟩
theorem swap_len(hp:List Ck)(i j:Nat):(swapAt hp i j).length=hp.length:=by
 unfold swapAt;split
 ·simp
 ·rfl
theorem swap_all{hp:List Ck}{i j:Nat}{p:Ck→Bool}(h:hp.all p=true):(swapAt hp i j).all p=true:=by
 obtain⟨σ,_,_,_,hg⟩:=swapAt_get hp i j;rw [List.all_eq_true]at h ⊢;intro x hx;obtain⟨k,hk⟩:=List.getElem?_of_mem hx;rw [hg]at hk;exact h x (List.mem_of_getElem? hk)
theorem swap_own{hp:List Ck}{i j:Nat}{ρ:Env}{Fs:List HP}{w:World}(h:Owns (hp.map (Ck.den ρ)++Fs) w):Owns ((swapAt hp i j).map (Ck.den ρ)++Fs) w:=by
 obtain⟨σ,h1,h2,h3,h4⟩:=swapAt_get hp i j;refine h.pick' (fun k=>some (σ k)) (fun k x hx=> .inr ⟨σ k,rfl,?_⟩) (fun a b c ha hb _ _=>h1 a b ?_)
 ·by_cases hk:k<hp.length
  ·rw [List.getElem?_append_left (by rw [List.length_map,swap_len];exact hk),List.getElem?_map,h4]at hx;rw [List.getElem?_append_left (by rw [List.length_map];exact h2 k hk),List.getElem?_map];exact hx
  ·rw [List.getElem?_append_right (by rw [List.length_map,swap_len];omega),List.length_map,swap_len]at hx;rw [h3 k (by omega),List.getElem?_append_right (by rw [List.length_map];omega),List.length_map];exact hx
 ·rw [Option.some.injEq]at ha hb;rw [ha,hb]
theorem nilAt_sound{T:List TI}{st st':St}{x:NilAt}{wr:Wrap}{L:Nat→LC}{f:F}(hg:nilAt T st x=some (st',wr))(h:HW Fs w0 st ρ w)(ha:HA st.fr st.nt ρ a)(hv:VC P Post (nilWrap [wr] f) ρ L):
  ∃ρ',Env.Le ρ ρ'∧HW Fs w0 st' ρ' w∧HA st'.fr st'.nt ρ' a∧st'.fn=st.fn∧VC P Post f ρ' L:=by
 cases wr with
 | nil=>
  obtain⟨g1,g2,g3,g4⟩:=nilAt_nil hg h ha;exact⟨_,Env.le_addV _ _,g1,g2,g4,hv⟩
 | same=>
  simp only [nilWrap]at hv;cases x with
  | slot s t=>
   simp only [nilAt]at hg;split at hg
   ·rw [Option.map_eq_some_iff]at hg;obtain⟨_,_,he⟩:=hg;cases he
   ·cases hg
  | cell i j t=>
   simp only [nilAt]at hg;split at hg
   ·split at hg
    ·rw [Option.map_eq_some_iff]at hg;obtain⟨_,_,he⟩:=hg;cases he
    ·cases hg
   ·cases hg
  | cut s md=>
   simp only [nilAt]at hg;split at hg
   ·rw [Option.map_eq_some_iff]at hg;obtain⟨y,hy,he⟩:=hg;obtain⟨_,_,hw,_⟩:=cutGo_sound (wr:=y.2) (st':=y.1) hy h;simp only [Prod.mk.injEq]at he;rw [he.2]at hw;cases hw
   ·cases hg
  | own s t=>
   simp only [nilAt]at hg;split at hg
   ·rw [Option.map_eq_some_iff]at hg;obtain⟨y,hy,he⟩:=hg;obtain⟨_,_,hw,_⟩:=ownGo_sound (wr:=y.2) (st':=y.1) hy h;simp only [Prod.mk.injEq]at he;rw [he.2]at hw;cases hw
   ·cases hg
  | cutCell i j md=>
   simp only [nilAt]at hg;split at hg
   ·split at hg
    ·split at hg
     ·rename_i s1 wr1 hy;obtain⟨_,_,hw,_⟩:=cutGo_sound hy h;split at hg
      ·split at hg
       ·simp only [Option.some.injEq,Prod.mk.injEq]at hg;rw [hg.2]at hw;cases hw
       ·cases hg
      ·cases hg
     ·cases hg
    ·cases hg
   ·cases hg
  | marks=>simp [nilAt]at hg
  | mark=>
   simp only [nilAt]at hg;split at hg
   ·split at hg
    ·simp at hg
    ·cases hg
   ·simp only [Option.some.injEq,Prod.mk.injEq,and_true]at hg;subst hg;exact⟨ρ,Env.Le.refl _,h,ha,rfl,hv⟩
   ·cases hg
  | swap s i=>
   simp only [nilAt]at hg;split at hg
   ·simp only [Option.some.injEq,Prod.mk.injEq,and_true]at hg;subst hg;exact⟨ρ,Env.Le.refl _,⟨h.lens,h.scf,swap_all h.sch,h.sck,h.kn,swap_own h.own,h.same,h.scd⟩,ha,rfl,hv⟩
   ·cases hg
 | blk=>
  simp only [nilWrap,VC]at hv;cases x with
  | slot s t=>
   simp only [nilAt]at hg;split at hg
   ·rw [Option.map_eq_some_iff]at hg;obtain⟨_,_,he⟩:=hg;cases he
   ·cases hg
  | cell i j t=>
   simp only [nilAt]at hg;split at hg
   ·split at hg
    ·rw [Option.map_eq_some_iff]at hg;obtain⟨_,_,he⟩:=hg;cases he
    ·cases hg
   ·cases hg
  | cut s md=>
   simp only [nilAt]at hg;split at hg
   ·rw [Option.map_eq_some_iff]at hg;obtain⟨y,hy,he⟩:=hg;obtain⟨_,_,hw,_⟩:=cutGo_sound (wr:=y.2) (st':=y.1) hy h;simp only [Prod.mk.injEq]at he;rw [he.2]at hw;cases hw
   ·cases hg
  | own s t=>
   simp only [nilAt]at hg;split at hg
   ·rw [Option.map_eq_some_iff]at hg;obtain⟨y,hy,he⟩:=hg;obtain⟨_,_,hw,_⟩:=ownGo_sound (wr:=y.2) (st':=y.1) hy h;simp only [Prod.mk.injEq]at he;rw [he.2]at hw;cases hw
   ·cases hg
  | cutCell i j md=>
   simp only [nilAt]at hg;split at hg
   ·split at hg
    ·split at hg
     ·rename_i s1 wr1 hy;obtain⟨_,_,hw,_⟩:=cutGo_sound hy h;split at hg
      ·split at hg
       ·simp only [Option.some.injEq,Prod.mk.injEq]at hg;rw [hg.2]at hw;cases hw
       ·cases hg
      ·cases hg
     ·cases hg
    ·cases hg
   ·cases hg
  | marks=>
   simp only [nilAt,Option.some.injEq,Prod.mk.injEq,and_true]at hg;subst hg;have hle:=Env.le_addB ρ (encL []);have hag:=Env.Le.agree h.lens hle;have hcl:st.cnt.le {st.cnt with b:=st.cnt.b+1}:=by constructor<;>simp
   have hb:=getD_addB' ρ (encL []) h.lens.b;refine⟨_,hle,⟨h.lens.addB _,frSc_mono hcl h.scf,?_,BEs_mono hcl h.sck,fun b hb=>(BE.sc_prop hag (List.all_eq_true.1 h.sck b hb)).1 (h.kn b hb),?_,h.same,?_⟩,?_,rfl,hv (encL [])⟩
   ·rw [List.all_append,Bool.and_eq_true];exact⟨Cks_mono hcl h.sch,by simp [Ck.sc]⟩
   ·rw [List.map_append];refine Owns.add (h.own_more hle) _ (fun _=>False) (Nat.le_refl _) (fun _ _=>rfl) ?_ (fun _ hk=>hk.elim);simp only [Ck.den,hb,listOf_enc];exact⟨by simp,by simp,by simp⟩
   ·rw [List.all_cons,Bool.and_eq_true];exact⟨by simp [MK.sc],dsc_mono hcl h.scd⟩
   ·have ha':=ha.more h.scf h.scd hag;refine⟨?_,ha'.size,ha'.slots⟩;rw [ha'.defers];simp only [marks,MK.blocks,List.flatMap_cons,hb,listOf_enc,List.nil_append]
  | mark=>
   simp only [nilAt]at hg;split at hg;rotate_left
   ·simp at hg
   ·cases hg
   rename_i b c ds hds;split at hg;rotate_left
   ·cases hg
   rename_i i j hi hj;simp only [Option.some.injEq,Prod.mk.injEq,and_true]at hg;subst hg;have hi':st.hp[i]? =some (.dfr b):=by
    rw [List.findIdx?_eq_some_iff_getElem]at hi;obtain⟨hlt,hd,_⟩:=hi;cases hc:st.hp[i]with
    | dfr b'=>
     rw [hc]at hd;simp only [Ck.isDfr,beq_iff_eq]at hd;subst hd;rw [List.getElem?_eq_getElem hlt,hc]
    | _=>rw [hc]at hd;simp [Ck.isDfr]at hd
   have hj':st.hp[j]? =some (.dfrs c):=by
    rw [List.findIdx?_eq_some_iff_getElem]at hj;obtain⟨hlt,hd,_⟩:=hj;cases hc:st.hp[j]with
    | dfrs b'=>
     rw [hc]at hd;simp only [Ck.isDfrs,beq_iff_eq]at hd;subst hd;rw [List.getElem?_eq_getElem hlt,hc]
    | _=>rw [hc]at hd;simp [Ck.isDfrs]at hd
   have hsd:=h.scd;rw [hds]at hsd;simp only [List.all_cons,Bool.and_eq_true,MK.sc,Nat.blt_eq]at hsd;generalize hl:ρ.bv.getD b 0::listOf (ρ.bv.getD c 0)=l;have hle:=Env.le_addB ρ (encL l);have hag:=Env.Le.agree h.lens hle;have hcl:st.cnt.le {st.cnt with b:=st.cnt.b+1}:=by constructor<;>simp
   have hb:=getD_addB' ρ (encL l) h.lens.b;refine⟨_,hle,⟨h.lens.addB _,frSc_mono hcl h.scf,?_,BEs_mono hcl h.sck,fun b hb=>(BE.sc_prop hag (List.all_eq_true.1 h.sck b hb)).1 (h.kn b hb),?_,h.same,?_⟩,?_,rfl,hv (encL l)⟩
   ·refine List.all_eq_true.2 fun q hq=>?_
    rcases List.mem_or_eq_of_mem_set hq with hq | rfl
    ·rcases List.mem_or_eq_of_mem_set hq with hq | rfl
     ·exact Ck.sc_mono hcl (List.all_eq_true.1 h.sch q hq)
     ·rfl
    ·simp [Ck.sc]
   ·have ho:=h.own_more hle;rw [List.map_set,List.map_set];have e1:(st.hp.map (Ck.den (ρ.addB (encL l))))[i]? =some (dfrHP (ρ.bv.getD b 0)):=by
     rw [List.getElem?_map,hi',Option.map_some,Ck.den,←hag.b b hsd.1]
    have e2:(st.hp.map (Ck.den (ρ.addB (encL l))))[j]? =some (dfrsHP (listOf (ρ.bv.getD c 0))):=by
     rw [List.getElem?_map,hj',Option.map_some,Ck.den,←hag.b c hsd.2.1]
    have:=ho.merge_marks e1 e2 (by rintro rfl;rw [hi']at hj';cases hj');rw [hl]at this;rw [show(Ck.dfrs st.cnt.b).den (ρ.addB (encL l))=dfrsHP l by simp only [Ck.den,hb,listOf_enc]];exact this
   ·rw [List.all_cons,Bool.and_eq_true];exact⟨by simp [MK.sc],dsc_mono hcl hsd.2.2⟩
   ·have ha':=ha.more h.scf h.scd hag;refine⟨?_,ha'.size,ha'.slots⟩;rw [ha.defers,hds];rw [show marks ρ (.one b:: .many c::ds)=l.map (fun b=>{target:= .collected b,args:= #[]})++marks ρ ds by simp [marks,MK.blocks,←hl],marks_sc hag hsd.2.2];simp only [marks,MK.blocks,List.flatMap_cons,hb,listOf_enc,List.map_append]
  | swap s i=>
   simp only [nilAt]at hg;split at hg
   ·simp at hg
   ·cases hg
 | cut vcs=>
  simp only [nilWrap]at hv;obtain⟨hvc,hv⟩:=vcF_VC hv;simp only [VC]at hv;cases x with
  | slot s t=>
   simp only [nilAt]at hg;split at hg
   ·rw [Option.map_eq_some_iff]at hg;obtain⟨_,_,he⟩:=hg;cases he
   ·cases hg
  | cell i j t=>
   simp only [nilAt]at hg;split at hg
   ·split at hg
    ·rw [Option.map_eq_some_iff]at hg;obtain⟨_,_,he⟩:=hg;cases he
    ·cases hg
   ·cases hg
  | cut s md=>
   simp only [nilAt]at hg;split at hg
   ·rename_i x hl;rw [Option.map_eq_some_iff]at hg;obtain⟨⟨s1,wr1⟩,hy,he⟩:=hg;cases he;obtain⟨vcs',hone,hwr,hHW,e1,e2,e3,e4,_⟩:=cutGo_sound hy h;cases hwr;have h1:=hHW hvc;have hle:=Env.le_addV ρ ⟨x.val ρ,hone⟩;have hag:=Env.Le.agree h.lens hle;have ha':=ha.more h.scf h.scd hag;have hv1:(SV.vv st.cnt.v).sc s1.cnt=true:=by rw [e4];simp [SV.sc]
    refine⟨_,hle,h1.put hv1,⟨by rw [(put_rest _ _ _).2.2.2.1,e2];exact ha'.defers,by rw [(put_rest _ _ _).2.2.2.1,e2];exact ha.size,fun q v hq=>?_⟩,by rw [(put_rest _ _ _).2.2.2.2,e3],hv _⟩;simp only [St.put]at hq;unfold look at hq;split at hq
    ·rename_i hqs;rw [beq_iff_eq]at hqs;subst hqs;cases hq;rw [ha.slots _ _ hl];simp only [SV.val,getD_addV ρ _ h.lens.v]
    ·rename_i hqs;rw [look_filter s _ q (fun e=>hqs (by simp [e])),e1]at hq;exact ha'.slots q v hq
   ·cases hg
  | own s t=>
   simp only [nilAt]at hg;split at hg
   ·rename_i x hl;rw [Option.map_eq_some_iff]at hg;obtain⟨⟨s1,wr1⟩,hy,he⟩:=hg;cases he;obtain⟨vcs',hone,hwr,h1,e1,e2,e3,e4⟩:=ownGo_sound hy h;cases hwr;have hle:=Env.le_addV ρ ⟨x.val ρ,hone⟩;have hag:=Env.Le.agree h.lens hle;have ha':=ha.more h.scf h.scd hag;have hv1:(SV.vv st.cnt.v).sc s1.cnt=true:=by rw [e4];simp [SV.sc]
    refine⟨_,hle,h1.put hv1,⟨by rw [(put_rest _ _ _).2.2.2.1,e2];exact ha'.defers,by rw [(put_rest _ _ _).2.2.2.1,e2];exact ha.size,fun q v hq=>?_⟩,by rw [(put_rest _ _ _).2.2.2.2,e3],hv _⟩;simp only [St.put]at hq;unfold look at hq;split at hq
    ·rename_i hqs;rw [beq_iff_eq]at hqs;subst hqs;cases hq;rw [ha.slots _ _ hl];simp only [SV.val,getD_addV ρ _ h.lens.v]
    ·rename_i hqs;rw [look_filter s _ q (fun e=>hqs (by simp [e])),e1]at hq;exact ha'.slots q v hq
   ·cases hg
  | cutCell i j md=>
   simp only [nilAt]at hg;split at hg
   ·rename_i b wr cs hi;split at hg
    ·rename_i x hj;split at hg
     ·rename_i s1 wr1 hy;obtain⟨vcs',hone,hwr,hHW,e1,e2,e3,e4,jj,md0,v0,t0,s0,n0,cols0,ck,e5,e6⟩:=cutGo_sound hy h;split at hg
      ·rename_i b' w' cs' hi';split at hg
       ·cases hg;cases hwr;have h1:=hHW hvc;have hle:=Env.le_addV ρ ⟨x.val ρ,hone⟩;have hag:=Env.Le.agree h.lens hle;have ha':=ha.more h.scf h.scd hag;have hv1:(SV.vv st.cnt.v).sc s1.cnt=true:=by rw [e4];simp [SV.sc]
        have hne:jj≠i:=by
         intro e;subst e;rw [hi]at e5;cases e5
        have hi1:s1.hp[i]? =some (.row b wr cs):=by
         rw [e6,List.getElem?_set_ne hne];exact hi
        have hsc1:=List.all_eq_true.1 h1.sch _ (List.mem_of_getElem? hi1);simp only [Ck.sc,Bool.and_eq_true]at hsc1;have hxs:x.sc st.cnt=true:=by
         have:=List.all_eq_true.1 h.sch _ (List.mem_of_getElem? hi);simp only [Ck.sc,Bool.and_eq_true]at this;have key: ∀{l:List SV} {k:Nat} {y:SV},SV.scL st.cnt l=true→l[k]? =some y→y.sc st.cnt=true:=by
          intro l
          induction l with
          | nil=>intro k y _ hy;simp at hy
          | cons z r ih=>
           intro k y hl hy;simp only [SV.scL,Bool.and_eq_true]at hl;cases k with
           | zero=>simp at hy;subst hy;exact hl.1
           | succ k=>exact ih hl.2 (by simpa using hy)
         exact key this.2 hj
        have hpl:x.plain=true:=by
         unfold cutGo at hy;split at hy
         ·rename_i r hr;cases x<;>first | rfl | simp [rootSV]at hr
         ·cases hy
        have hden:(Ck.row b wr (cs.set j (.vv st.cnt.v))).den (ρ.addV ⟨x.val ρ,hone⟩)=(Ck.row b wr cs).den (ρ.addV ⟨x.val ρ,hone⟩):=by
         simp only [Ck.den];rw [cellsL_put hj];rw [cells_plain _ hpl,←(SV.sc_val hag hxs).1];simp only [SV.cells,getD_addV ρ _ h.lens.v]
        have hmap:(s1.hp.set i (.row b wr (cs.set j (.vv st.cnt.v)))).map (Ck.den (ρ.addV ⟨x.val ρ,hone⟩))=s1.hp.map (Ck.den (ρ.addV ⟨x.val ρ,hone⟩)):=by
         rw [List.map_set,hden];apply List.ext_getElem?;intro q;rw [List.getElem?_set];split
         ·rename_i hq;subst hq;split
          ·rw [List.getElem?_map,hi1];rfl
          ·rename_i hlt;rw [List.getElem?_eq_none (by omega)]
         ·rfl
        refine⟨_,hle,⟨h1.lens,h1.scf,?_,h1.sck,h1.kn,by rw [hmap];exact h1.own,h1.same,h1.scd⟩,⟨by rw [e2];exact ha'.defers,by rw [e2];exact ha.size,by rw [e1];exact ha'.slots⟩,e3,hv _⟩;refine List.all_eq_true.2 fun q hq=>?_
        rcases List.mem_or_eq_of_mem_set hq with hq | rfl
        ·exact List.all_eq_true.1 h1.sch q hq
        ·simp only [Ck.sc,Bool.and_eq_true];exact⟨hsc1.1,scL_set hsc1.2 hv1⟩
       ·cases hg
      ·cases hg
     ·cases hg
    ·cases hg
   ·cases hg
  | marks=>simp [nilAt]at hg
  | mark=>
   simp only [nilAt]at hg;split at hg
   ·split at hg
    ·simp at hg
    ·cases hg
   ·simp at hg
   ·cases hg
  | swap s i=>
   simp only [nilAt]at hg;split at hg
   ·simp at hg
   ·cases hg
theorem nilWrap_cons(x:Wrap)(r:List Wrap)(f:F):nilWrap (x::r) f=nilWrap [x] (nilWrap r f):=by cases x<;>rfl
theorem nilAll_sound{T:List TI}{L:Nat→LC}{f:F}: ∀{xs:List NilAt} {st st':St} {n:List Wrap} {ρ:Env},nilAll T st xs=some (st',n)→HW Fs w0 st ρ w→HA st.fr st.nt ρ a→VC P Post (nilWrap n f) ρ L→
  ∃ρ',Env.Le ρ ρ'∧HW Fs w0 st' ρ' w∧HA st'.fr st'.nt ρ' a∧st'.fn=st.fn∧VC P Post f ρ' L
 | [],st,st',n,ρ,h,hw,ha,hv=>by
  simp only [nilAll,Option.some.injEq,Prod.mk.injEq]at h;obtain⟨rfl,rfl⟩:=h;exact⟨ρ,Env.Le.refl _,hw,ha,rfl,hv⟩
 | x::xs,st,st',n,ρ,h,hw,ha,hv=>by
  unfold nilAll at h;split at h
  ·rename_i s1 h1;split at h
   ·rename_i s2 k h2;simp only [Option.some.injEq,Prod.mk.injEq]at h;obtain⟨rfl,rfl⟩:=h;rw [nilWrap_cons]at hv;obtain⟨ρ1,g0,g1,g2,g4,g5⟩:=nilAt_sound h1 hw ha hv;obtain⟨ρ',q1,q2,q3,q5,q6⟩:=nilAll_sound h2 g1 g2 g5;exact⟨ρ',g0.trans q1,q2,q3,q5.trans g4,q6⟩
   ·cases h
  ·cases h
end
end Go.RX
