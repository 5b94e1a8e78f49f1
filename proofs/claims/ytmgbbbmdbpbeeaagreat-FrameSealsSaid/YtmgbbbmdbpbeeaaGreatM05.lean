/- Executor. -/
import Derived.Test.YtmgbbbmdbpbeeaaGreatM04
open Go.Op renaming equalIn → afu
open Go.Result renaming andThen_ok → ae3
open Go.Sem renaming run_bind → afa
open List renaming eq_nil_of_length_eq_zero → aff, getElem?_append_left → ae1, getElem?_append_right → ae2, getElem?_eq_some_iff → aeV, mem_filter → afk
open Option renaming map_eq_some_iff → aeY
open Option.some renaming injEq → aeX
open Prod.mk renaming injEq → afB
namespace Go.RX
section
variable {P:Program} {w:World} {ρ:Env}
def Reads(hp:List Ck)(ρ:Env)(w:World)(S:Nat→Nat→Prop)(rd:List Nat):Prop:=
 ∀j∈rd,∀ck,hp[j]? =some ck→(ck.den ρ).p w (S j)
theorem uN{c:Nat}{cs pre post:List SV}{k:IntKind}{n:Nat}{a:E}(h:HS c cs=some (pre,k,n,a,post)):
  SV.aC ρ cs=SV.aC ρ pre++al k n (a.den ρ)++SV.aC ρ post∧(SV.aC ρ pre).length=c:=by
 unfold HS at h;split at h
 ·rename_i hle;split at h
  ·rename_i k' n' a' r S9 h1 h2;simp only [aeX,afB]at h;obtain⟨rfl,rfl,rfl,rfl,rfl⟩:=h;have e1:=dY ρ _ _ _ h1;have e2:=ia ρ _ _ _ h2;simp only [SV.aC,SV.cells]at e1;refine⟨?_,?_⟩
   ·rw [e2,List.append_assoc,e1,List.take_append_drop]
   ·rw [e2,List.length_take,bB];exact Nat.min_eq_left hle
  ·cases h
 ·cases h
theorem xq{a b:E}(h: ∀c∈dJ a b,c.prop ρ):a.den ρ 0≤b.den ρ 0:=by
 unfold dJ at h;split at h
 ·rename_i he;subst he;exact Int.le_refl _
 ·have key:(wq a b).den ρ=true:=by
   by_cases hl:wq a b= .lit true
   ·rw [hl];rfl
   ·exact(BE.cc ρ _).2 (h _ (afk.2 ⟨by simp,by simpa using hl⟩))
  rw [gK]at key;exact of_decide_eq_true key
theorem Mf(k:IntKind)(n:Nat)(a:E):aM ρ n [⟨.int k,1,a⟩]=al k n (a.den ρ):=by
 unfold aM aQ al
 induction n with
 | zero=>rfl
 | succ n ih=>
  rw [List.range_succ,List.flatMap_append,List.map_append,ih];simp [bV.cells,aO,al]
theorem xr{ρ:Env}: ∀{cs:List SV} {o:Nat} {acc a:E},sm o acc cs=some a→
  (∀j,j<o→oI (a.den ρ) j=oI (acc.den ρ) j)∧(SV.aC ρ cs).length=cs.length∧∀j,j<cs.length→(SV.aC ρ cs)[j]? =some (.string ⟨(cj (oI (a.den ρ) (o+j))).toArray⟩)
 | [],o,acc,a,h=>by
  simp only [sm,aeX]at h;subst h;exact⟨fun _ _=>rfl,rfl,fun j hj=>absurd hj (Nat.not_lt_zero _)⟩
 | v::r,o,acc,a,h=>by
  have key: ∀s:E,SV.cells ρ v=[.string ⟨(cj (s.den ρ)).toArray⟩]→sm (o+1) (.o4 acc (.lit o) s) r=some a→
    (∀j,j<o→oI (a.den ρ) j=oI (acc.den ρ) j)∧(SV.aC ρ (v::r)).length=(v::r).length∧∀j,j<(v::r).length→(SV.aC ρ (v::r))[j]? =some (.string ⟨(cj (oI (a.den ρ) (o+j))).toArray⟩):=by
   intro s hv h;obtain⟨i1,i2,i3⟩:=xr (ρ:=ρ) h;refine⟨fun j hj=>?_,by simp [SV.aC,hv,i2],fun j hj=>?_⟩
   ·rw [i1 j (by omega),iY,iV,cK,if_neg (by simp;omega)]
   ·simp only [SV.aC,hv,List.singleton_append];cases j with
    | zero=>
     simp only [List.getElem?_cons_zero,Nat.add_zero];rw [i1 o (by omega),iY,iV,cK,if_pos (by simp)]
    | succ j=>
     rw [List.getElem?_cons_succ,i3 j (by simpa using hj)];congr 6;omega
  cases v with
  | str l=>exact key (y9 l) (by simp [SV.cells,k_,mS]) (by simpa [sm] using h)
  | kg s=>exact key s rfl (by simpa [sm] using h)
  | _=>simp [sm]at h
theorem Bn{ρ:Env}{cs:List SV}{a:E}(h:Mg cs=some a)(j:Nat)(hj:j<cs.length):(SV.aC ρ cs)[j]? =some (.string ⟨(cj (oI (a.den ρ) j)).toArray⟩):=by
 have:=(xr (ρ:=ρ) h).2.2 j hj
 rwa [Nat.zero_add]at this
theorem qG{hp:List Ck}{ti:TI}(cQ:jS P ti){x:SV}{res:hZ}(h:wv hp ti.k.agg ti.size x=some res)
  {S:Nat→Nat→Prop} (cV:Reads hp ρ w S res.rd) (bY: ∀b∈res.vcs,b.prop ρ):
  (Instr.loadAt ti.t (x.val ρ)).run P w= .ok (res.val.val ρ) w∧res.hO= .none:=by
 unfold wv at h;split at h
 ·rename_i b c;split at h
  ·rename_i j b' wr cs hf;obtain⟨hj,dC⟩:=cO hf;simp only [Ck.qv,beq_iff_eq]at dC;subst dC;split at h
   ·rename_i y hy;rw [aeY]at h;obtain⟨v,hv,rfl⟩:=h;have hS:=cV j (by simp) _ hj;obtain⟨h1,h2⟩:=eK ρ hy;refine⟨?_,rfl⟩;refine ll cQ ⟨ρ.bv.getD b 0,c,none⟩ (SV.aC ρ y) (by rw [h1,List.length_take,List.length_drop];omega) ?_ _ (lN ρ hv);intro i u hu;rw [h1]at hu;refine iC hS c i u ?_;rw [List.getElem?_take]at hu;split at hu
    ·exact hu
    ·cases hu
   ·cases h
  ·cases h
 ·rename_i b i s c;split at h
  ·rename_i j b' wr cs hf;obtain⟨hj,dC⟩:=cO hf;simp only [Ck.qv,beq_iff_eq]at dC;subst dC;split at h
   ·rename_i hc;obtain⟨rfl,fx,vM⟩:=hc;split at h
    ·rename_i pre k n a post S_;simp only [aeX]at h;subst h;have hS:=cV j (by simp) _ hj;obtain⟨e1,e2⟩:=uN (ρ:=ρ) S_;obtain⟨La,Ta⟩:=dp ρ bY;simp only [E.den]at Ta;refine⟨?_,rfl⟩;refine ll cQ ⟨ρ.bv.getD b 0,(i.den ρ 0).toNat*1+c,none⟩ [.int k ((gl a i).den ρ 0)] (by simp [fx]) ?_ _ ⟨fun h=>(by rw [vM]at h;cases h),fun _=>rfl⟩;intro m u hu;refine iC hS _ m u ?_;have hm:m=0:=by
      cases m with
      | zero=>rfl
      | succ m=>simp at hu
     subst hm;rw [e1,List.getElem?_drop,List.append_assoc,ae2 (by omega),e2,ae1 (by rw [aG];omega),bu,
      if_pos (by omega)]
     simp only [List.getElem?_cons_zero,aeX]at hu;rw [←hu,ei];congr 3;omega
    ·split at h
     ·rename_i hc0;split at h
      ·rename_i a uE;cases h;have hS:=cV j (by simp) _ hj;obtain⟨La,Ta⟩:=dp ρ bY;simp only [E.den]at Ta;refine⟨?_,rfl⟩;have ln:=Bn (ρ:=ρ) uE (i.den ρ 0).toNat (by omega);refine ll cQ ⟨ρ.bv.getD b 0,(i.den ρ 0).toNat*1+c,none⟩ [.string ⟨(cj (oI (a.den ρ) (i.den ρ 0).toNat)).toArray⟩] (by simp [fx]) ?_ _ ⟨fun h=>(by rw [vM]at h;cases h),fun _=>by rw [mV,xl]⟩;intro m u hu;refine iC hS _ m u ?_;have hm:m=0:=by
        cases m with
        | zero=>rfl
        | succ m=>simp at hu
       subst hm;rw [hc0,Nat.mul_one,Nat.add_zero,List.getElem?_drop,Nat.add_zero,ln];simpa using hu
      ·cases h
     ·cases h
   ·cases h
  ·cases h
 ·rename_i v i s c;split at h
  ·rename_i j md v' t s' n aF hf;obtain⟨hj,dC⟩:=cU hf;simp only [Ck.lO,beq_iff_eq]at dC;subst dC;split at h
   ·rename_i hc;obtain⟨rfl,hs⟩:=hc;split at h
    ·split at h
     ·rename_i bU k a;split at h
      ·rename_i Yk;obtain⟨rfl,vM⟩:=Yk;cases h;have hS:=cV j (by simp) _ hj;simp only at bY;have q1:=xq (ρ:=ρ) (fun b hb=>bY b (List.mem_append_left _ hb));have q2:=xq (ρ:=ρ) (fun b hb=>bY b (List.mem_append_right _ hb));rw [bM]at q2;simp only [E.den]at q1 q2;have j_:s=1:=by simpa [bW] using hs
       subst j_;obtain⟨a0,cp,hv⟩:=m5 hS (by omega);refine⟨?_,rfl⟩;simp only [SV.val,eG,hv];refine ll cQ _ (al k ti.size ((jt a i).den ρ)) (aG ..) ?_ _ ⟨fun _=>by simp [SV.aC,SV.cells],fun h=>(by rw [vM]at h;cases h)⟩;intro m u hu;rw [bu]at hu;split at hu
       ·rename_i hm;simp only [aeX]at hu;have Yl:((aM ρ (n.den ρ 0).toNat [⟨.int k,1,a⟩]).drop ((i.den ρ 0).toNat*1+0))[m]? =some u:=by
         rw [Mf,List.getElem?_drop,bu,if_pos (by omega),←hu,dP];congr 3;omega
        obtain⟨a',m',cp',qw,_,ln⟩:=DH hS _ m u Yl;rw [hv]at qw;cases qw;exact ln
       ·cases hu
      ·cases h
     ·cases h
    split at h
    ·rename_i es Bo;split at h
     ·rename_i y hy;rw [aeY]at h;obtain⟨x,hx,rfl⟩:=h;have hS:=cV j (by simp) _ hj;obtain⟨La,Ta⟩:=dp ρ bY;obtain⟨h1,h2⟩:=eK ρ hy;have h3:=lh ρ Bo;have bU:(i.den ρ 0).toNat<(n.den ρ 0).toNat:=by omega
      have Tb:=PO ρ aF (n.den ρ 0).toNat (i.den ρ 0).toNat bU;obtain⟨a,cp,hv⟩:=m5 hS (by omega);refine⟨?_,rfl⟩;simp only [SV.val,eG,hv];refine ll cQ _ (SV.aC ρ y) (by rw [h1,List.length_take,List.length_drop];omega) ?_ _ (lN ρ hx);intro m u hu;have Yl:((aM ρ (n.den ρ 0).toNat aF).drop ((i.den ρ 0).toNat*s+c))[m]? =some u:=by
       rw [h1,h3,←Tb,←hs]at hu;rw [List.getElem?_take]at hu;split at hu
       ·rw [List.getElem?_drop,List.getElem?_take]at hu;split at hu
        ·rw [List.getElem?_drop]at hu;rw [List.getElem?_drop,←hu];congr 1;omega
        ·cases hu
       ·cases hu
      obtain⟨a',m',cp',qw,_,ln⟩:=DH hS _ m u Yl;rw [hv]at qw;cases qw;exact ln
     ·cases h
    ·cases h
   ·cases h
  ·cases h
 ·cases h
theorem ig(b:Nat): ∀(vs:List Value) (o:Nat) (w:World),(w.setCells b o vs).heap.size=w.heap.size
 | [],_,_=>rfl
 | v::r,o,w=>by rw [World.setCells,ig b r];simp [World.setCell]
theorem ij(b:Nat): ∀(vs:List Value) (o:Nat) (w:World),fV w (w.setCells b o vs)
 | [],_,w=>fV.refl w
 | v::r,o,w=>by
  rw [World.setCells];exact fV.trans (b:=w.setCell ⟨b,o,none⟩ v) ⟨rfl,rfl,rfl,by simp [World.setCell]⟩ (ij b r (o+1) _)
theorem gw(b:Nat): ∀(vs:List Value) (o:Nat) (w:World) (k:Nat),k≠b→(w.setCells b o vs).heap[k]? =w.heap[k]?
 | [],_,_,_,_=>rfl
 | v::r,o,w,k,hk=>by
  rw [World.setCells,gw b r (o+1) _ k hk];simp only [World.setCell,Array.getElem?_modify];rw [if_neg (by omega)]
theorem pY{b:Nat}{cs vs:List Value}{S:Nat→Prop}(h:(ax b true cs).p w S)(c:Nat)(hl:c+vs.length≤cs.length)
  (h1: ∀u∈vs,u.oneCell'=true):
  (storeCells ⟨b,c,none⟩ vs).run P w= .ok () (w.setCells b c vs)∧(ax b true (cs.take c++vs++cs.drop (c+vs.length))).p (w.setCells b c vs) S:=by
 obtain⟨hS,ty,fz,hg,hf⟩:=h;have hfz:=hf rfl;subst hfz;have ln: ∀j,j<vs.length→(w.cell? ⟨b,c+j,none⟩).isSome=true:=fun j hj=>by
  rw [cell_of_row w b (c+j) _ ty (0,0) hg];simp;omega
 have RN: ∀j,j<vs.length→w.frozen? ⟨b,c+j,none⟩=false:=fun j hj=>by
  simp [World.frozen?,hg]
 have r1:=run_storeCells_cells (P:=P) b c vs 0 w (by simpa using ln) (by simpa using RN) h1;have r2:=run_storeCells_at (P:=P) b c ty vs 0 cs.toArray w hg (by simp;omega) h1;simp only [Nat.add_zero]at r1 r2;have e:w.setCells b c vs=w.setRow b (cs.take c++vs++cs.drop (c+vs.length)).toArray:=by
  rw [r1]at r2;injection r2
 exact⟨r1,hS,ty,(0,0),by rw [e];exact setRow_heap w b _ _ ty _ hg,fun _=>rfl⟩
theorem xu{α:Type}(l vs:List α)(c N:Nat)(h:c+vs.length≤N)(hN:N≤l.length):
  (l.take c++vs++l.drop (c+vs.length)).take N=(l.take N).take c++vs++(l.take N).drop (c+vs.length):=by
 rw [List.take_append,List.take_of_length_le (l:=l.take c++vs) (by simp;omega),List.take_take,Nat.min_eq_left (by omega),List.drop_take];congr 2;simp;omega
theorem pe(l vs:List Value)(o c k:Nat)(hc:c+vs.length≤k)(hk:o+k≤l.length):
  ((l.take (o+c)++vs++l.drop (o+c+vs.length)).drop o).take k=((l.drop o).take k).take c++vs++((l.drop o).take k).drop (c+vs.length):=by
 have e1:(l.take (o+c)++vs++l.drop (o+c+vs.length)).drop o=(l.drop o).take c++vs++(l.drop o).drop (c+vs.length):=by
  rw [List.append_assoc,List.drop_append_of_le_length (by simp;omega),List.drop_take,Nat.add_sub_cancel_left,List.append_assoc,List.drop_drop,Nat.add_assoc]
 rw [e1];exact xu (l.drop o) vs c k hc (by simp;omega)
theorem Ak{t s n:Nat}{v:Value}{cs vs:List Value}{S:Nat→Prop}(h:(aE true t s v n cs).p w S)(c:Nat)(hl:c+vs.length≤cs.length)
  (eZ:0<vs.length) (h1: ∀u∈vs,u.oneCell'=true):
  ∃g o w',eG v c= .pointer (some ⟨g,o,none⟩)∧S g∧(storeCells ⟨g,o,none⟩ vs).run P w= .ok () w'∧fV w w'∧w'.heap.size=w.heap.size∧
   (∀k,k≠g→w'.heap[k]? =w.heap[k]?)∧(aE true t s v n (cs.take c++vs++cs.drop (c+vs.length))).p w' S:=by
 obtain⟨h0,hS⟩:=h;simp only [if_true]at h0;obtain⟨hlen,hr⟩:=h0;rcases hr with⟨_,rfl⟩ | ⟨g,o,cap,cur,rfl,⟨t',hg⟩,CI,OP,mj,L_⟩
 ·rw [Nat.zero_mul]at hlen;omega
 ·have hns:n*s≤cap*s:=Nat.mul_le_mul_right _ CI;have mj:=mj (by
   apply Nat.pos_of_ne_zero;rintro rfl;rw [Nat.zero_mul]at hns;omega)
  have Ym:o+c+vs.length≤cur.size:=by omega
  have uE:=run_storeCells_at (P:=P) g (o+c) t' vs 0 cur w hg (by simpa using Ym) h1;simp only [Nat.add_zero]at uE;refine⟨g,o+c,_,by simp [eG,eI],(hS g).2 ⟨by simp [Value.ownBlock],.inl rfl⟩,uE,⟨rfl,rfl,rfl,by simp⟩,by simp,fun k hk=>setRow_other w g k _ hk,?_,hS⟩;simp only [if_true];refine⟨by simp;omega,.inr ⟨g,o,cap,_,rfl,⟨t',setRow_heap w g cur _ t' _ hg⟩,CI,OP,?_,?_⟩⟩
  ·simp only [List.size_toArray,List.length_append,List.length_take,List.length_drop,Array.length_toList];intro _;omega
  ·rw [←L_];simp only;exact pe _ vs o c (n*s) (by omega) (by simp;omega)
theorem pf{ti:TI}(h:jS P ti)(a:Addr)(v:Value)(vs:List Value)(hv:v.cells.toList=vs)(hl:vs.length=ti.size){w':World}
  (hr:(storeCells a vs).run P w= .ok () w'):(Instr.storeAt ti.t (.pointer (some a)) v).run P w= .ok () w':=by
 have fx:v.cells.size=ti.size:=by rw [←hl,←hv];simp
 simp [Instr.storeAt,Instr.sureAddr,storeVar,h.sizeOf w,fx,hv,hr]
structure HT (P:Program) (w:World) (ρ:Env) (hp:List Ck) (S:Nat→Nat→Prop) (j:Nat) (ck:Ck) (w':World):Prop where
 old: ∃PS,hp[j]? =some PS∧(PS.den ρ).wr=true
 wr:j=j
 same:fV w w'
 size:w'.heap.size=w.heap.size
 keep: ∀k,¬S j k→w'.heap[k]? =w.heap[k]?
 now:(ck.den ρ).p w' (S j)
theorem xw{hp:List Ck}{ti:TI}(cQ:jS P ti){v x:SV}{res:hZ}(h:xx hp ti.size v x=some res)(j9:ρ.Ok)
  {S:Nat→Nat→Prop} (cV:Reads hp ρ w S res.rd) (bY: ∀b∈res.vcs,b.prop ρ):
  res.val= .undef∧∃j ck,res.hO= .set j ck∧∃w',(Instr.storeAt ti.t (x.val ρ) (v.val ρ)).run P w= .ok () w'∧HT P w ρ hp S j ck w':=by
 unfold xx at h;split at h
 ·rename_i b c;split at h
  ·rename_i j b' cs vs hf Al;obtain⟨hj,dC⟩:=cO hf;simp only [Ck.qv,beq_iff_eq]at dC;subst dC;obtain⟨e1,e2⟩:=ib ρ Al j9;split at h
   ·rename_i hlen;rw [aeY]at h;obtain⟨uM,Yn,rfl⟩:=h;refine⟨rfl,j,_,rfl,?_⟩;have hS:=cV j (by simp) _ hj;obtain⟨h1,h2⟩:=nM ρ Yn;obtain⟨h3,h4⟩:=pY (P:=P) hS c h2 e2;refine⟨_,pf cQ _ _ _ e1 (by rw [bB];exact hlen) h3,⟨⟨_,hj,rfl⟩,rfl,ij _ _ _ _,ig _ _ _ _,?_,?_⟩⟩
    ·intro k hk;exact gw _ _ _ _ _ (fun e=>hk ((hS.1 k).2 e))
    ·simp only [Ck.den,h1];exact h4
   ·cases h
  ·cases h
 ·rename_i b i s c;split at h
  ·rename_i j b' cs k e hf Al;obtain⟨hj,dC⟩:=cO hf;simp only [Ck.qv,beq_iff_eq]at dC;subst dC;obtain⟨e1,e2⟩:=ib ρ Al j9;split at h
   ·rename_i hc;obtain⟨rfl,fx⟩:=hc;split at h
    ·rename_i pre k' n a post S_;split at h
     ·rename_i hk;subst hk;simp only [aeX]at h;subst h;refine⟨rfl,j,_,rfl,?_⟩;have hS:=cV j (by simp) _ hj;obtain⟨h1,h2⟩:=uN (ρ:=ρ) S_;obtain⟨La,Ta⟩:=dp ρ bY;simp only [E.den]at Ta;have bU:(i.den ρ 0).toNat<n:=by omega
      have Vi:(SV.aC ρ [SV.int k e])=[.int k (e.den ρ 0)]:=rfl;rw [Vi]at e1 e2;have dH:c+(i.den ρ 0).toNat+1≤(SV.aC ρ cs).length:=by rw [h1];simp [aG];omega
      obtain⟨h3,h4⟩:=pY (P:=P) (vs:=[.int k (e.den ρ 0)]) hS (c+(i.den ρ 0).toNat) (by simpa using dH) e2;refine⟨_,by rw [show SV.val ρ (.oJ b i 1 c)= .pointer (some ⟨ρ.bv.getD b 0,c+(i.den ρ 0).toNat,none⟩) by simp [SV.val,Nat.add_comm]];exact pf cQ _ _ _ e1 (by simpa using fx.symm) h3,
       ⟨⟨_,hj,rfl⟩,rfl,ij _ _ _ _,ig _ _ _ _,?_,?_⟩⟩
      ·intro k' mY;exact gw _ _ _ _ _ (fun e=>mY ((hS.1 k').2 e))
      ·simp only [Ck.den];have:SV.aC ρ (pre++ .cE k n (.r9 a i e)::post)=(SV.aC ρ cs).take (c+(i.den ρ 0).toNat)++[.int k (e.den ρ 0)]++(SV.aC ρ cs).drop (c+(i.den ρ 0).toNat+1):=by
        rw [h_,h1];simp only [SV.aC,SV.cells];have Yo:(SV.aC ρ pre).length=c:=h2;generalize SV.aC ρ pre=A at Yo ⊢;generalize SV.aC ρ post=B;rw [List.append_assoc A,List.take_append,List.take_of_length_le (l:=A) (by omega),Yo,show c+(i.den ρ 0).toNat - c=(i.den ρ 0).toNat by omega,
         List.drop_append,List.drop_of_length_le (l:=A) (by omega),Yo,show c+(i.den ρ 0).toNat+1 - c=(i.den ρ 0).toNat+1 by omega,
         List.take_append_of_le_length (by rw [aG];omega),List.drop_append_of_le_length (by rw [aG];omega),List.nil_append]
        simp only [List.append_assoc];congr 1;apply List.ext_getElem?;intro m;by_cases hm:m<n
        ·rw [ae1 (by rw [aG];exact hm),bu,if_pos hm];simp only [E.den];rcases Nat.lt_trichotomy m (i.den ρ 0).toNat with Yp | heq | XA
         ·rw [if_neg (by omega),ae1 (by simp [aG];omega),List.getElem?_take_of_lt Yp,bu,if_pos hm]
         ·subst heq;rw [if_pos rfl,ae2 (by simp [aG];omega)];simp [aG,Nat.min_eq_left (Nat.le_of_lt hm)]
         ·rw [if_neg (by omega),ae2 (by simp [aG];omega)];simp only [List.length_take,aG,Nat.min_eq_left (Nat.le_of_lt bU)];obtain⟨d,rfl⟩: ∃d,m=(i.den ρ 0).toNat+1+d:=⟨m - (i.den ρ 0).toNat - 1,by omega⟩;rw [show(i.den ρ 0).toNat+1+d - (i.den ρ 0).toNat=d+1 by omega,List.singleton_append,List.getElem?_cons_succ,ae1 (by simp [aG];omega),
           List.getElem?_drop,bu,if_pos (by omega)]
        ·rw [ae2 (by rw [aG];omega),aG,ae2 (by simp [aG];omega)];simp only [List.length_take,aG,Nat.min_eq_left (Nat.le_of_lt bU)];obtain⟨d,rfl⟩: ∃d,m=n+d:=⟨m - n,by omega⟩;rw [show n+d - (i.den ρ 0).toNat=(n - (i.den ρ 0).toNat - 1)+d+1 by omega,List.singleton_append,List.getElem?_cons_succ,
          ae2 (by simp [aG];omega)]
         congr 1;simp [aG];omega
       rw [this];exact h4
     ·cases h
    ·cases h
   ·cases h
  ·cases h
 ·rename_i xv i s c;split at h
  ·rename_i j v' t s' n aF vs hf Al;obtain⟨hj,dC⟩:=cU hf;simp only [Ck.lO,beq_iff_eq]at dC;subst dC;obtain⟨e1,e2⟩:=ib ρ Al j9;split at h
   ·rename_i hc;obtain⟨rfl,hs,qx,hlen⟩:=hc;rw [aeY]at h;obtain⟨aZ,eB,rfl⟩:=h;refine⟨rfl,j,_,rfl,?_⟩;have hS:=cV j (by simp) _ hj;obtain⟨La,Ta⟩:=dp ρ bY;have bU:(i.den ρ 0).toNat<(n.den ρ 0).toNat:=by omega
    obtain⟨p1,p2,p3,p4⟩:=qF ρ eB;have pg:=PR s (fun(i:Nat)=>rowAt ρ aF i) (fun(i:Nat)=>rowAt ρ aZ i) (fun i=>by rw [dh];exact hs.symm) (fun i=>by rw [dh,p1];exact hs.symm)
     (n.den ρ 0).toNat (i.den ρ 0).toNat c (SV.aC ρ vs) bU (by rw [hs];exact p2) p3 p4
    have Vi:(SV.aC ρ vs).length=ti.size:=by rw [bB];exact hlen
    have hbound:(i.den ρ 0).toNat*s+c+(SV.aC ρ vs).length≤(aM ρ (n.den ρ 0).toNat aF).length:=by
     rw [dj,←hs];have:=Nat.mul_le_mul_right s (Nat.succ_le_of_lt bU);rw [Nat.succ_mul]at this;omega
    obtain⟨g,o,w',g1,g2,g3,g4,g5,g6,g7⟩:=Ak (P:=P) hS _ hbound (by omega) e2;refine⟨w',?_,⟨⟨_,hj,rfl⟩,rfl,g4,g5,?_,?_⟩⟩
    ·rw [show SV.val ρ (.pv xv i s c)=eG (ρ.vv.getD xv V1.nil).v ((i.den ρ 0).toNat*s+c)from rfl,g1];exact pf cQ _ _ _ e1 Vi g3
    ·intro k hk;exact g6 k (fun e=>hk (e▸g2))
    ·simp only [Ck.den];rw [show aM ρ (n.den ρ 0).toNat aZ=(List.range (n.den ρ 0).toNat).flatMap fun i=>rowAt ρ aZ i from rfl,pg];exact g7
   ·cases h
  ·cases h
 ·cases h
end
def fy:List Value→List gb→Prop
 | [],[]=>True
 | .int q _::r,some q'::l=>q=q'∧fy r l
 | .bool _::r,none::l=>fy r l
 | _,_=>False
def rl:List Value→List Value→Bool
 | [],[]=>true
 | .int _ a::r,.int _ b::s=>a==b&&rl r s
 | .bool a::r,.bool b::s=>a==b&&rl r s
 | _,_=>false
theorem eL: ∀{xs:List Value} {l:List gb},fy xs l→xs.length=l.length
 | [],[],_=>rfl
 | x::r,[],h=>by cases x<;>simp [fy]at h
 | [],k::l,h=>by simp [fy]at h
 | x::r,k::l,h=>by
  have:fy r l:=by cases x<;>cases k<;>simp_all [fy]
  simp [eL this]
theorem eM: ∀{l1:List gb} {xs:List Value} {l2:List gb},fy xs (l1++l2)→fy (xs.take l1.length) l1∧fy (xs.drop l1.length) l2
 | [],xs,l2,h=>by simpa [fy] using h
 | k::l1,[],l2,h=>by simp [fy]at h
 | k::l1,x::r,l2,h=>by
  simp only [List.cons_append,List.length_cons,List.take_succ_cons,List.drop_succ_cons]at h ⊢;cases x<;>cases k<;>simp only [fy]at h ⊢
  ·exact eM h
  ·exact⟨⟨h.1,(eM h.2).1⟩,(eM h.2).2⟩
theorem nO: ∀{l:List gb} {a c b d:List Value},fy a l→fy c l→rl (a++b) (c++d)=(rl a c&&rl b d)
 | [],a,c,b,d,ha,hc=>by
  have h1:=eL ha;have h2:=eL hc;have:a=[]:=aff h1;have:c=[]:=aff h2
  subst_vars
  simp [rl]
 | k::l,[],c,b,d,ha,hc=>by simp [fy]at ha
 | k::l,x::a,[],b,d,ha,hc=>by simp [fy]at hc
 | k::l,x::a,y::c,b,d,ha,hc=>by
  cases x<;>cases k<;>simp only [fy]at ha<;>cases y<;>simp only [fy]at hc
  ·simp only [List.cons_append,rl,nO ha hc,Bool.and_assoc]
  ·simp only [List.cons_append,rl,nO ha.2 hc.2,Bool.and_assoc]
def CM(P:Program)(t:TypeId)(cs:List Value)(x:Value):Prop:=
 match P.underlying t with
 | some (.struct _)=>x= .agg cs.toArray
 | some (.array _ _)=>x= .agg cs.toArray
 | _=>cs=[x]
section
variable {P:Program}
theorem gP(w:World){d:Nat}{t:TypeId}{l:List gb}(hl:fi P d t=some l)(hs:P.cellsOf t=l.length)(cs:List Value)(off:Nat)
  (hf:fy ((cs.drop off).take l.length) l): ∃x,(part t cs.toArray off).run P w= .ok x w∧CM P t ((cs.drop off).take l.length) x:=by
 have DJ: ∃i,P.info? t=some i∧i.size=l.length:=by
  cases d with
  | zero=>simp [fi]at hl
  | succ d=>
   cases hi:P.info? t with
   | none=>simp [fi,Program.underlying,hi]at hl
   | some i=>exact⟨i,rfl,by simpa [Program.cellsOf,hi] using hs⟩
 obtain⟨i,hi,fx⟩:=DJ;have hso:(sizeOf t).run P w= .ok l.length w:=by simp [sizeOf,typeInfo,hi,fx]
 cases d with
 | zero=>simp [fi]at hl
 | succ d=>
  unfold fi at hl;cases hu:P.underlying t with
  | none=>simp [hu]at hl
  | some td=>
   have uO:=run_underlying hu w;rw [hu]at hl;cases td with
   | int k=>
    simp only [aeX]at hl;subst hl;have hlen:=eL hf;simp only [List.length_cons,List.length_nil]at hlen hf;cases hc:cs[off]? with
    | none=>
     rw [List.getElem?_eq_none_iff]at hc;rw [List.drop_of_length_le hc]at hlen;simp at hlen
    | some x=>
     refine⟨x,by simp [part,isAgg,uO,hc],?_⟩;simp only [CM,hu];have:off<cs.length:=(aeV.1 hc).1;rw [List.drop_eq_getElem_cons this];simp [(aeV.1 hc).2]
   | bool=>
    simp only [aeX]at hl;subst hl;have hlen:=eL hf;simp only [List.length_cons,List.length_nil]at hlen hf;cases hc:cs[off]? with
    | none=>
     rw [List.getElem?_eq_none_iff]at hc;rw [List.drop_of_length_le hc]at hlen;simp at hlen
    | some x=>
     refine⟨x,by simp [part,isAgg,uO,hc],?_⟩;simp only [CM,hu];have:off<cs.length:=(aeV.1 hc).1;rw [List.drop_eq_getElem_cons this];simp [(aeV.1 hc).2]
   | array n e=>
    refine⟨_,by simp [part,isAgg,uO,hso];rfl,?_⟩;simp only [CM,hu]
   | struct fs=>
    refine⟨_,by simp [part,isAgg,uO,hso];rfl,?_⟩;simp only [CM,hu]
   | _=>simp at hl
def Yq(P:Program)(dd:Nat)(t:TypeId)(l:List gb):Prop:=
 ∀(w:World) (xs ys:List Value) (x y:Value),fy xs l→fy ys l→CM P t xs x→CM P t ys y→(afu dd t x y).run P w= .ok (rl xs ys) w
theorem ov(w:World)(dd:Nat){d:Nat}{e:TypeId}{l:List gb}(hl:fi P d e=some l)(hs:P.cellsOf e=l.length)(IH:Yq P dd e l)(xs ys:List Value):
  ∀(m k:Nat),fy (xs.drop (k*l.length)) (List.replicate m l).flatten→fy (ys.drop (k*l.length)) (List.replicate m l).flatten→
   (Op.eqItems dd e (P.cellsOf e) xs.toArray ys.toArray (List.range' k m)).run P w= .ok (rl (xs.drop (k*l.length)) (ys.drop (k*l.length))) w
 | 0,k,hx,hy=>by
  have h1:xs.drop (k*l.length)=[]:=aff (by simpa using eL hx);have h2:ys.drop (k*l.length)=[]:=aff (by simpa using eL hy);rw [h1,h2];simp [Op.eqItems,rl]
 | m+1,k,hx,hy=>by
  rw [List.replicate_succ,List.flatten_cons]at hx hy;obtain⟨JK,Vj⟩:=eM hx;obtain⟨PU,RO⟩:=eM hy;rw [List.drop_drop]at Vj RO;obtain⟨a,pa,va⟩:=gP w hl hs xs (k*l.length) JK;obtain⟨b,pb,vb⟩:=gP w hl hs ys (k*l.length) PU;have UD:=IH w _ _ a b JK PU va vb;have ih:=ov w dd hl hs IH xs ys m (k+1) (by rw [Nat.add_mul,Nat.one_mul];exact Vj) (by rw [Nat.add_mul,Nat.one_mul];exact RO);rw [Nat.add_mul,Nat.one_mul]at ih;have F5:rl (xs.drop (k*l.length)) (ys.drop (k*l.length))=
    (rl ((xs.drop (k*l.length)).take l.length) ((ys.drop (k*l.length)).take l.length)&&rl (xs.drop (k*l.length+l.length)) (ys.drop (k*l.length+l.length))):=by
   rw [←nO JK PU,←List.drop_drop,←List.drop_drop,List.take_append_drop,List.take_append_drop]
  rw [List.range'_succ];simp only [Op.eqItems,afa,hs,pa,pb,UD,ae3];rw [hs]at ih;rw [F5];cases rl ((xs.drop (k*l.length)).take l.length) ((ys.drop (k*l.length)).take l.length)
  ·simp
  ·simpa using ih
theorem m8(w:World)(dd:Nat)(f:TypeId→Option (List gb))(d:Nat)(RP: ∀t,f t=fi P d t)(IH: ∀t l,fi P d t=some l→Yq P dd t l)(xs ys:List Value):
  ∀(fs:List Field) (off:Nat) (L:List gb),jv P f fs off=some L→fy (xs.drop off) L→fy (ys.drop off) L→
   (Op.eqFields dd xs.toArray ys.toArray fs).run P w= .ok (rl (xs.drop off) (ys.drop off)) w
 | [],off,L,h,hx,hy=>by
  simp only [jv,aeX]at h;subst h;have h1:xs.drop off=[]:=aff (by simpa using eL hx);have h2:ys.drop off=[]:=aff (by simpa using eL hy);rw [h1,h2];simp [Op.eqFields,rl]
 | fd::fs,off,L,h,hx,hy=>by
  unfold jv at h;split at h
  ·cases h
  ·rename_i hn;simp only [Bool.or_eq_true,beq_iff_eq,bne_iff_ne,ne_eq,not_or,Decidable.not_not]at hn;obtain⟨hn,rfl⟩:=hn;split at h
   ·rename_i l hl;split at h
    ·rename_i hs;rw [aeY]at h;obtain⟨L',Tc,rfl⟩:=h;rw [RP]at hl;have nI:P.cellsOf fd.type=l.length:=by simpa using hs
     obtain⟨JK,Vj⟩:=eM hx;obtain⟨PU,RO⟩:=eM hy;rw [List.drop_drop]at Vj RO;obtain⟨a,pa,va⟩:=gP w hl nI xs fd.offset JK;obtain⟨b,pb,vb⟩:=gP w hl nI ys fd.offset PU;have UD:=IH _ _ hl w _ _ a b JK PU va vb;have ih:=m8 w dd f d RP IH xs ys fs (fd.offset+l.length) L' Tc Vj RO;have F5:rl (xs.drop fd.offset) (ys.drop fd.offset)=
       (rl ((xs.drop fd.offset).take l.length) ((ys.drop fd.offset).take l.length)&&rl (xs.drop (fd.offset+l.length)) (ys.drop (fd.offset+l.length))):=by
      rw [←nO JK PU,←List.drop_drop,←List.drop_drop,List.take_append_drop,List.take_append_drop]
     simp only [Op.eqFields,hn,ne_eq,not_false_eq_true,if_true,afa,pa,pb,UD,ae3];rw [F5];cases rl ((xs.drop fd.offset).take l.length) ((ys.drop fd.offset).take l.length)
     ·simp
     ·simpa using ih
    ·cases h
   ·cases h
theorem lP(k:Nat): ∀(d:Nat) (t:TypeId) (L:List gb),fi P d t=some L→Yq P (k+d) t L
 | 0,t,L,h=>by simp [fi]at h
 | d+1,t,L,h=>by
  intro w xs ys x y hx hy vx vy;unfold fi at h;cases hu:P.underlying t with
  | none=>simp [hu]at h
  | some td=>
   rw [hu]at h;simp only [CM,hu]at vx vy;cases td with
   | int q=>
    simp only [aeX]at h;subst h vx vy;cases x<;>simp only [fy]at hx
    cases y<;>simp only [fy]at hy
    obtain⟨rfl,_⟩:=hx;obtain⟨rfl,_⟩:=hy;rw [show k+(d+1)=(k+d)+1 from rfl,run_equalIn_int w _ t _ _ _ _ hu];simp [rl]
   | bool=>
    simp only [aeX]at h;subst h vx vy;cases x<;>simp only [fy]at hx
    cases y<;>simp only [fy]at hy
    rw [show k+(d+1)=(k+d)+1 from rfl,run_equalIn_bool' w _ t _ _ hu];simp [rl]
   | array n e=>
    simp only at h vx vy;subst vx vy;split at h
    ·rename_i l hl;split at h
     ·rename_i hs;simp only [aeX]at h;subst h;have nI:P.cellsOf e=l.length:=by simpa using hs
      have DJ: ∃i,P.info? e=some i:=by
       cases d with
       | zero=>simp [fi]at hl
       | succ d=>
        cases hi:P.info? e with
        | none=>simp [fi,Program.underlying,hi]at hl
        | some i=>exact⟨i,rfl⟩
      obtain⟨i,hi⟩:=DJ;rw [show k+(d+1)=(k+d)+1 from rfl,run_equalIn_array w (k+d) _ _ hu hi,List.range_eq_range'];have:=ov w (k+d) hl nI (lP k d e l hl) xs ys n 0 (by simpa using hx) (by simpa using hy);simpa using this
     ·cases h
    ·cases h
   | struct fs=>
    simp only at h vx vy;subst vx vy;split at h
    ·cases h
    ·rename_i uE;have hfs:P.fieldsOf t=fs:=by simp [Program.fieldsOf,hu]
     rw [show k+(d+1)=(k+d)+1 from rfl,run_equalIn_struct w (k+d) t _ _ (by rw [hfs];exact hu) (by simpa using uE),hfs];have:=m8 w (k+d) (fi P d) d (fun _=>rfl) (lP k d) xs ys fs.toList 0 L h (by simpa using hx) (by simpa using hy);simpa using this
   | _=>simp at h
end
end Go.RX
