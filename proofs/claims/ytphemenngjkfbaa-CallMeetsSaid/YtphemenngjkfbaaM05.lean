/- Executor. -/
import Derived.Test.YtphemenngjkfbaaM04
open Decidable renaming not_not → ad5
open Go.Op renaming equalIn → aed
open Go.Result renaming andThen_ok → adR
open Go.Sem renaming run_bind → adV
open List renaming append_nil → adW, eq_nil_of_length_eq_zero → adZ, getElem?_append_left → adO, getElem?_append_right → adQ, getElem?_eq_some_iff → adJ, mem_filter → ad7, range → aec
open Option renaming map_eq_some_iff → adM
open Option.some renaming injEq → adK
open Prod.mk renaming injEq → aek
namespace Go.RX
section
variable {P:Program} {w:World} {ρ:Env}
def Reads(hp:List Ck)(ρ:Env)(w:World)(S:Nat→Nat→Prop)(rd:List Nat):Prop:=
 ∀j∈rd,∀ck,hp[j]? =some ck→(ck.den ρ).p w (S j)
theorem vH{c:Nat}{cs pre post:List SV}{k:IntKind}{n:Nat}{a:E}(h:H8 c cs=some (pre,k,n,a,post)):
  SV.ar ρ cs=SV.ar ρ pre++al k n (a.den ρ)++SV.ar ρ post∧(SV.ar ρ pre).length=c:=by
 unfold H8 at h;split at h
 ·rename_i hle;split at h
  ·rename_i k' n' a' r Gm h1 h2;simp only [adK,aek]at h;obtain⟨rfl,rfl,rfl,rfl,rfl⟩:=h;have e1:=dY ρ _ _ _ h1;have e2:=ic ρ _ _ _ h2;simp only [SV.ar,SV.cells]at e1;refine⟨?_,?_⟩
   ·rw [e2,List.append_assoc,e1,List.take_append_drop]
   ·rw [e2,List.length_take,bp];exact Nat.min_eq_left hle
  ·cases h
 ·cases h
theorem xZ{a b:E}(h: ∀c∈dG a b,c.prop ρ):a.den ρ 0≤b.den ρ 0:=by
 unfold dG at h;split at h
 ·rename_i he;subst he;exact Int.le_refl _
 ·have key:(wF a b).den ρ=true:=by
   by_cases hl:wF a b= .lit true
   ·rw [hl];rfl
   ·exact(BE.bY ρ _).2 (h _ (ad7.2 ⟨by simp,by simpa using hl⟩))
  rw [gP]at key;exact of_decide_eq_true key
theorem L6(k:IntKind)(n:Nat)(a:E):aF ρ n [⟨.int k,1,a⟩]=al k n (a.den ρ):=by
 unfold aF aH al
 induction n with
 | zero=>rfl
 | succ n ih=>
  rw [List.range_succ,List.flatMap_append,List.map_append,ih];simp [bV.cells,au,al]
theorem x_{ρ:Env}: ∀{cs:List SV} {o:Nat} {acc a:E},tf o acc cs=some a→
  (∀j,j<o→po (a.den ρ) j=po (acc.den ρ) j)∧(SV.ar ρ cs).length=cs.length∧∀j,j<cs.length→(SV.ar ρ cs)[j]? =some (.string ⟨(dW (po (a.den ρ) (o+j))).toArray⟩)
 | [],o,acc,a,h=>by
  simp only [tf,adK]at h;subst h;exact⟨fun _ _=>rfl,rfl,fun j hj=>absurd hj (Nat.not_lt_zero _)⟩
 | v::r,o,acc,a,h=>by
  have key: ∀s:E,SV.cells ρ v=[.string ⟨(dW (s.den ρ)).toArray⟩]→tf (o+1) (.pF acc (.lit o) s) r=some a→
    (∀j,j<o→po (a.den ρ) j=po (acc.den ρ) j)∧(SV.ar ρ (v::r)).length=(v::r).length∧∀j,j<(v::r).length→(SV.ar ρ (v::r))[j]? =some (.string ⟨(dW (po (a.den ρ) (o+j))).toArray⟩):=by
   intro s hv h;obtain⟨i1,i2,i3⟩:=x_ (ρ:=ρ) h;refine⟨fun j hj=>?_,by simp [SV.ar,hv,i2],fun j hj=>?_⟩
   ·rw [i1 j (by omega),jb,iY,cM,if_neg (by simp;omega)]
   ·simp only [SV.ar,hv,List.singleton_append];cases j with
    | zero=>
     simp only [List.getElem?_cons_zero,Nat.add_zero];rw [i1 o (by omega),jb,iY,cM,if_pos (by simp)]
    | succ j=>
     rw [List.getElem?_cons_succ,i3 j (by simpa using hj)];congr 6;omega
  cases v with
  | str l=>exact key (iD l) (by simp [SV.cells,lH,nF]) (by simpa [tf] using h)
  | kE s=>exact key s rfl (by simpa [tf] using h)
  | _=>simp [tf]at h
theorem BM{ρ:Env}{cs:List SV}{a:E}(h:L7 cs=some a)(j:Nat)(hj:j<cs.length):(SV.ar ρ cs)[j]? =some (.string ⟨(dW (po (a.den ρ) j)).toArray⟩):=by
 have:=(x_ (ρ:=ρ) h).2.2 j hj
 rwa [Nat.zero_add]at this
theorem rB{hp:List Ck}{ti:TI}(cN:kb P ti){x:SV}{res:gU}(h:wZ hp ti.k.agg ti.size x=some res)
  {S:Nat→Nat→Prop} (cU:Reads hp ρ w S res.rd) (cb: ∀b∈res.vcs,b.prop ρ):
  (Instr.loadAt ti.t (x.val ρ)).run P w= .ok (res.val.val ρ) w∧res.gJ= .none:=by
 unfold wZ at h;split at h
 ·rename_i b c;split at h
  ·rename_i j b' wr cs hf;obtain⟨hj,dM⟩:=cP hf;simp only [Ck.rh,beq_iff_eq]at dM;subst dM;split at h
   ·rename_i y hy;rw [adM]at h;obtain⟨v,hv,rfl⟩:=h;have hS:=cU j (by simp) _ hj;obtain⟨h1,h2⟩:=eF ρ hy;refine⟨?_,rfl⟩;refine lL cN ⟨ρ.bv.getD b 0,c,none⟩ (SV.ar ρ y) (by rw [h1,List.length_take,List.length_drop];omega) ?_ _ (mH ρ hv);intro i u hu;rw [h1]at hu;refine iF hS c i u ?_;rw [List.getElem?_take]at hu;split at hu
    ·exact hu
    ·cases hu
   ·cases h
  ·cases h
 ·rename_i b i s c;split at h
  ·rename_i j b' wr cs hf;obtain⟨hj,dM⟩:=cP hf;simp only [Ck.rh,beq_iff_eq]at dM;subst dM;split at h
   ·rename_i hc;obtain⟨rfl,eV,Ad⟩:=hc;split at h
    ·rename_i pre k n a post Sm;simp only [adK]at h;subst h;have hS:=cU j (by simp) _ hj;obtain⟨e1,e2⟩:=vH (ρ:=ρ) Sm;obtain⟨O7,Sn⟩:=dq ρ cb;simp only [E.den]at Sn;refine⟨?_,rfl⟩;refine lL cN ⟨ρ.bv.getD b 0,(i.den ρ 0).toNat*1+c,none⟩ [.int k ((gv a i).den ρ 0)] (by simp [eV]) ?_ _ ⟨fun h=>(by rw [Ad]at h;cases h),fun _=>rfl⟩;intro m u hu;refine iF hS _ m u ?_;have hm:m=0:=by
      cases m with
      | zero=>rfl
      | succ m=>simp at hu
     subst hm;rw [e1,List.getElem?_drop,List.append_assoc,adQ (by omega),e2,adO (by rw [aE];omega),bx,
      if_pos (by omega)]
     simp only [List.getElem?_cons_zero,adK]at hu;rw [←hu,ej];congr 3;omega
    ·split at h
     ·rename_i hc0;split at h
      ·rename_i a ow;cases h;have hS:=cU j (by simp) _ hj;obtain⟨O7,Sn⟩:=dq ρ cb;simp only [E.den]at Sn;refine⟨?_,rfl⟩;have nP:=BM (ρ:=ρ) ow (i.den ρ 0).toNat (by omega);refine lL cN ⟨ρ.bv.getD b 0,(i.den ρ 0).toNat*1+c,none⟩ [.string ⟨(dW (po (a.den ρ) (i.den ρ 0).toNat)).toArray⟩] (by simp [eV]) ?_ _ ⟨fun h=>(by rw [Ad]at h;cases h),fun _=>by rw [nI,xU]⟩;intro m u hu;refine iF hS _ m u ?_;have hm:m=0:=by
        cases m with
        | zero=>rfl
        | succ m=>simp at hu
       subst hm;rw [hc0,Nat.mul_one,Nat.add_zero,List.getElem?_drop,Nat.add_zero,nP];simpa using hu
      ·cases h
     ·cases h
   ·cases h
  ·cases h
 ·rename_i v i s c;split at h
  ·rename_i j md v' t s' n aA hf;obtain⟨hj,dM⟩:=cX hf;simp only [Ck.mI,beq_iff_eq]at dM;subst dM;split at h
   ·rename_i hc;obtain⟨rfl,hs⟩:=hc;split at h
    ·split at h
     ·rename_i cK k a;split at h
      ·rename_i XU;obtain⟨rfl,Ad⟩:=XU;cases h;have hS:=cU j (by simp) _ hj;simp only at cb;have q1:=xZ (ρ:=ρ) (fun b hb=>cb b (List.mem_append_left _ hb));have q2:=xZ (ρ:=ρ) (fun b hb=>cb b (List.mem_append_right _ hb));rw [bH]at q2;simp only [E.den]at q1 q2;have je:s=1:=by simpa [bX] using hs
       subst je;obtain⟨a0,cp,hv⟩:=nM hS (by omega);refine⟨?_,rfl⟩;simp only [SV.val,eC,hv];refine lL cN _ (al k ti.size ((jI a i).den ρ)) (aE ..) ?_ _ ⟨fun _=>by simp [SV.ar,SV.cells],fun h=>(by rw [Ad]at h;cases h)⟩;intro m u hu;rw [bx]at hu;split at hu
       ·rename_i hm;simp only [adK]at hu;have XV:((aF ρ (n.den ρ 0).toNat [⟨.int k,1,a⟩]).drop ((i.den ρ 0).toNat*1+0))[m]? =some u:=by
         rw [L6,List.getElem?_drop,bx,if_pos (by omega),←hu,dQ];congr 3;omega
        obtain⟨a',m',cp',ri,_,nP⟩:=DF hS _ m u XV;rw [hv]at ri;cases ri;exact nP
       ·cases hu
      ·cases h
     ·cases h
    split at h
    ·rename_i es BN;split at h
     ·rename_i y hy;rw [adM]at h;obtain⟨x,hx,rfl⟩:=h;have hS:=cU j (by simp) _ hj;obtain⟨O7,Sn⟩:=dq ρ cb;obtain⟨h1,h2⟩:=eF ρ hy;have h3:=lK ρ BN;have cK:(i.den ρ 0).toNat<(n.den ρ 0).toNat:=by omega
      have So:=Pq ρ aA (n.den ρ 0).toNat (i.den ρ 0).toNat cK;obtain⟨a,cp,hv⟩:=nM hS (by omega);refine⟨?_,rfl⟩;simp only [SV.val,eC,hv];refine lL cN _ (SV.ar ρ y) (by rw [h1,List.length_take,List.length_drop];omega) ?_ _ (mH ρ hx);intro m u hu;have XV:((aF ρ (n.den ρ 0).toNat aA).drop ((i.den ρ 0).toNat*s+c))[m]? =some u:=by
       rw [h1,h3,←So,←hs]at hu;rw [List.getElem?_take]at hu;split at hu
       ·rw [List.getElem?_drop,List.getElem?_take]at hu;split at hu
        ·rw [List.getElem?_drop]at hu;rw [List.getElem?_drop,←hu];congr 1;omega
        ·cases hu
       ·cases hu
      obtain⟨a',m',cp',ri,_,nP⟩:=DF hS _ m u XV;rw [hv]at ri;cases ri;exact nP
     ·cases h
    ·cases h
   ·cases h
  ·cases h
 ·cases h
theorem ij(b:Nat): ∀(vs:List Value) (o:Nat) (w:World),(w.setCells b o vs).heap.size=w.heap.size
 | [],_,_=>rfl
 | v::r,o,w=>by rw [World.setCells,ij b r];simp [World.setCell]
theorem ik(b:Nat): ∀(vs:List Value) (o:Nat) (w:World),fQ w (w.setCells b o vs)
 | [],_,w=>fQ.refl w
 | v::r,o,w=>by
  rw [World.setCells];exact fQ.trans (b:=w.setCell ⟨b,o,none⟩ v) ⟨rfl,rfl,rfl,by simp [World.setCell]⟩ (ik b r (o+1) _)
theorem gA(b:Nat): ∀(vs:List Value) (o:Nat) (w:World) (k:Nat),k≠b→(w.setCells b o vs).heap[k]? =w.heap[k]?
 | [],_,_,_,_=>rfl
 | v::r,o,w,k,hk=>by
  rw [World.setCells,gA b r (o+1) _ k hk];simp only [World.setCell,Array.getElem?_modify];rw [if_neg (by omega)]
theorem qC{b:Nat}{cs vs:List Value}{S:Nat→Prop}(h:(ak b true cs).p w S)(c:Nat)(hl:c+vs.length≤cs.length)
  (h1: ∀u∈vs,u.oneCell'=true):
  (storeCells ⟨b,c,none⟩ vs).run P w= .ok () (w.setCells b c vs)∧(ak b true (cs.take c++vs++cs.drop (c+vs.length))).p (w.setCells b c vs) S:=by
 obtain⟨hS,ty,fz,hg,hf⟩:=h;have hfz:=hf rfl;subst hfz;have nP: ∀j,j<vs.length→(w.cell? ⟨b,c+j,none⟩).isSome=true:=fun j hj=>by
  rw [cell_of_row w b (c+j) _ ty (0,0) hg];simp;omega
 have Re: ∀j,j<vs.length→w.frozen? ⟨b,c+j,none⟩=false:=fun j hj=>by
  simp [World.frozen?,hg]
 have r1:=run_storeCells_cells (P:=P) b c vs 0 w (by simpa using nP) (by simpa using Re) h1;have r2:=run_storeCells_at (P:=P) b c ty vs 0 cs.toArray w hg (by simp;omega) h1;simp only [Nat.add_zero]at r1 r2;have e:w.setCells b c vs=w.setRow b (cs.take c++vs++cs.drop (c+vs.length)).toArray:=by
  rw [r1]at r2;injection r2
 exact⟨r1,hS,ty,(0,0),by rw [e];exact setRow_heap w b _ _ ty _ hg,fun _=>rfl⟩
theorem L8{α:Type}(l vs:List α)(c N:Nat)(h:c+vs.length≤N)(hN:N≤l.length):
  (l.take c++vs++l.drop (c+vs.length)).take N=(l.take N).take c++vs++(l.take N).drop (c+vs.length):=by
 rw [List.take_append,List.take_of_length_le (l:=l.take c++vs) (by simp;omega),List.take_take,Nat.min_eq_left (by omega),List.drop_take];congr 2;simp;omega
theorem pP(l vs:List Value)(o c k:Nat)(hc:c+vs.length≤k)(hk:o+k≤l.length):
  ((l.take (o+c)++vs++l.drop (o+c+vs.length)).drop o).take k=((l.drop o).take k).take c++vs++((l.drop o).take k).drop (c+vs.length):=by
 have e1:(l.take (o+c)++vs++l.drop (o+c+vs.length)).drop o=(l.drop o).take c++vs++(l.drop o).drop (c+vs.length):=by
  rw [List.append_assoc,List.drop_append_of_le_length (by simp;omega),List.drop_take,Nat.add_sub_cancel_left,List.append_assoc,List.drop_drop,Nat.add_assoc]
 rw [e1];exact L8 (l.drop o) vs c k hc (by simp;omega)
theorem eG(g o:Nat)(t:TypeId)(fz:Nat×Nat): ∀(vs:List Value) (i:Nat) (cur:Array Value) (w:World),w.heap[g]? =some (.cells cur t fz)→pH cur.size fz→o+i+vs.length≤cur.size→(∀v∈vs,v.oneCell'=true)→
  (storeCells ⟨g,o,none⟩ vs i).run P w= .ok () (w.setRow g (cur.toList.take (o+i)++vs++cur.toList.drop (o+i+vs.length)).toArray)
 | [],i,cur,w,hg,_,_,_=>by
  simp only [storeCells,adW,List.length_nil,Nat.add_zero,List.take_append_drop,Array.toArray_toList];rw [setRow_self w g cur t fz hg];rfl
 | v::rest,i,cur,w,hg,hz,hl,h1=>by
  have hi:o+i<cur.size:=by simp at hl;omega
  have XW:(⟨g,o,none⟩:Addr).add i=⟨g,o+i,none⟩:=by unfold Addr.add;split<;>simp_all
  have nP:w.cell? ⟨g,o+i,none⟩=some cur[o+i]:=by simp [World.cell?,hg,hi]
  have XX:w.frozen? ⟨g,o+i,none⟩=false:=by
   simp only [World.frozen?,hg];exact hz.off hi
  have ow:(store ((⟨g,o,none⟩:Addr).add i) v).run P w= .ok () (w.setRow g (cur.setIfInBounds (o+i) v)):=by
   rw [XW,run_store P w _ v _ (h1 v (by simp)),nP];simp [XX,setCell_eq_setRow w g (o+i) cur t fz v hg]
  have ih:=eG g o t fz rest (i+1) (cur.setIfInBounds (o+i) v) (w.setRow g (cur.setIfInBounds (o+i) v)) (setRow_heap w g cur _ t _ hg) (by simpa using hz) (by simp at hl ⊢;omega) (fun x hx=>h1 x (by simp [hx]));simp only [storeCells,adV,ow,adR,ih,setRow_setRow];congr 3;have e:=list_seg_step cur.toList (o+i) v rest (by simp at hl ⊢;omega);simpa [Array.toList_setIfInBounds,Nat.add_assoc] using e
theorem AO{t s n:Nat}{v:Value}{cs vs:List Value}{S:Nat→Prop}(h:(aB true t s v n cs).p w S)(c:Nat)(hl:c+vs.length≤cs.length)
  (fc:0<vs.length) (h1: ∀u∈vs,u.oneCell'=true):
  ∃g o w',eC v c= .pointer (some ⟨g,o,none⟩)∧S g∧(storeCells ⟨g,o,none⟩ vs).run P w= .ok () w'∧fQ w w'∧w'.heap.size=w.heap.size∧
   (∀k,k≠g→w'.heap[k]? =w.heap[k]?)∧(aB true t s v n (cs.take c++vs++cs.drop (c+vs.length))).p w' S:=by
 obtain⟨h0,hS⟩:=h;simp only [if_true]at h0;obtain⟨hlen,hr⟩:=h0;rcases hr with⟨_,rfl⟩ | ⟨g,o,cap,cur,rfl,⟨t',fz,hg,hz⟩,Dv,Pn,m_,LX⟩
 ·rw [Nat.zero_mul]at hlen;omega
 ·have hns:n*s≤cap*s:=Nat.mul_le_mul_right _ Dv;have m_:=m_ (by
   apply Nat.pos_of_ne_zero;rintro rfl;rw [Nat.zero_mul]at hns;omega)
  have XY:o+c+vs.length≤cur.size:=by omega
  have ow:=eG (P:=P) g (o+c) t' fz vs 0 cur w hg hz (by simpa using XY) h1;simp only [Nat.add_zero]at ow;refine⟨g,o+c,_,by simp [eC,eD],(hS g).2 ⟨by simp [Value.ownBlock],.inl rfl⟩,ow,⟨rfl,rfl,rfl,by simp⟩,by simp,fun k hk=>setRow_other w g k _ hk,?_,hS⟩;simp only [if_true];refine⟨by simp;omega,.inr ⟨g,o,cap,_,rfl,⟨t',fz,setRow_heap w g cur _ t' _ hg,by refine Eq.mp (congrArg (pH · fz) ?_) hz;simp;omega⟩,Dv,Pn,?_,?_⟩⟩
  ·simp only [List.size_toArray,List.length_append,List.length_take,List.length_drop,Array.length_toList];intro _;omega
  ·rw [←LX];simp only;exact pP _ vs o c (n*s) (by omega) (by simp;omega)
theorem pQ{ti:TI}(h:kb P ti)(a:Addr)(v:Value)(vs:List Value)(hv:v.cells.toList=vs)(hl:vs.length=ti.size){w':World}
  (hr:(storeCells a vs).run P w= .ok () w'):(Instr.storeAt ti.t (.pointer (some a)) v).run P w= .ok () w':=by
 have eV:v.cells.size=ti.size:=by rw [←hl,←hv];simp
 simp [Instr.storeAt,Instr.sureAddr,storeVar,h.sizeOf w,eV,hv,hr]
structure H9 (P:Program) (w:World) (ρ:Env) (hp:List Ck) (S:Nat→Nat→Prop) (j:Nat) (ck:Ck) (w':World):Prop where
 T9: ∃Pt,hp[j]? =some Pt∧(Pt.den ρ).wr=true
 wr:j=j
 same:fQ w w'
 size:w'.heap.size=w.heap.size
 Sf: ∀k,¬S j k→w'.heap[k]? =w.heap[k]?
 now:(ck.den ρ).p w' (S j)
theorem yd{hp:List Ck}{ti:TI}(cN:kb P ti){v x:SV}{res:gU}(h:ye hp ti.size v x=some res)(ng:ρ.Ok)
  {S:Nat→Nat→Prop} (cU:Reads hp ρ w S res.rd) (cb: ∀b∈res.vcs,b.prop ρ):
  res.val= .undef∧∃j ck,res.gJ= .set j ck∧∃w',(Instr.storeAt ti.t (x.val ρ) (v.val ρ)).run P w= .ok () w'∧H9 P w ρ hp S j ck w':=by
 unfold ye at h;split at h
 ·rename_i b c;split at h
  ·rename_i j b' cs vs hf H_;obtain⟨hj,dM⟩:=cP hf;simp only [Ck.rh,beq_iff_eq]at dM;subst dM;obtain⟨e1,e2⟩:=ig ρ H_ ng;split at h
   ·rename_i hlen;rw [adM]at h;obtain⟨uC,XZ,rfl⟩:=h;refine⟨rfl,j,_,rfl,?_⟩;have hS:=cU j (by simp) _ hj;obtain⟨h1,h2⟩:=ot ρ XZ;obtain⟨h3,h4⟩:=qC (P:=P) hS c h2 e2;refine⟨_,pQ cN _ _ _ e1 (by rw [bp];exact hlen) h3,⟨⟨_,hj,rfl⟩,rfl,ik _ _ _ _,ij _ _ _ _,?_,?_⟩⟩
    ·intro k hk;exact gA _ _ _ _ _ (fun e=>hk ((hS.1 k).2 e))
    ·simp only [Ck.den,h1];exact h4
   ·cases h
  ·cases h
 ·rename_i b i s c;split at h
  ·rename_i j b' cs k e hf H_;obtain⟨hj,dM⟩:=cP hf;simp only [Ck.rh,beq_iff_eq]at dM;subst dM;obtain⟨e1,e2⟩:=ig ρ H_ ng;split at h
   ·rename_i hc;obtain⟨rfl,eV⟩:=hc;split at h
    ·rename_i pre k' n a post Sm;split at h
     ·rename_i hk;subst hk;simp only [adK]at h;subst h;refine⟨rfl,j,_,rfl,?_⟩;have hS:=cU j (by simp) _ hj;obtain⟨h1,h2⟩:=vH (ρ:=ρ) Sm;obtain⟨O7,Sn⟩:=dq ρ cb;simp only [E.den]at Sn;have cK:(i.den ρ 0).toNat<n:=by omega
      have UA:(SV.ar ρ [SV.int k e])=[.int k (e.den ρ 0)]:=rfl;rw [UA]at e1 e2;have dZ:c+(i.den ρ 0).toNat+1≤(SV.ar ρ cs).length:=by rw [h1];simp [aE];omega
      obtain⟨h3,h4⟩:=qC (P:=P) (vs:=[.int k (e.den ρ 0)]) hS (c+(i.den ρ 0).toNat) (by simpa using dZ) e2;refine⟨_,by rw [show SV.val ρ (.pq b i 1 c)= .pointer (some ⟨ρ.bv.getD b 0,c+(i.den ρ 0).toNat,none⟩) by simp [SV.val,Nat.add_comm]];exact pQ cN _ _ _ e1 (by simpa using eV.symm) h3,
       ⟨⟨_,hj,rfl⟩,rfl,ik _ _ _ _,ij _ _ _ _,?_,?_⟩⟩
      ·intro k' py;exact gA _ _ _ _ _ (fun e=>py ((hS.1 k').2 e))
      ·simp only [Ck.den];have:SV.ar ρ (pre++ .aX k n (.cV a i e)::post)=(SV.ar ρ cs).take (c+(i.den ρ 0).toNat)++[.int k (e.den ρ 0)]++(SV.ar ρ cs).drop (c+(i.den ρ 0).toNat+1):=by
        rw [ib,h1];simp only [SV.ar,SV.cells];have X0:(SV.ar ρ pre).length=c:=h2;generalize SV.ar ρ pre=A at X0 ⊢;generalize SV.ar ρ post=B;rw [List.append_assoc A,List.take_append,List.take_of_length_le (l:=A) (by omega),X0,show c+(i.den ρ 0).toNat - c=(i.den ρ 0).toNat by omega,
         List.drop_append,List.drop_of_length_le (l:=A) (by omega),X0,show c+(i.den ρ 0).toNat+1 - c=(i.den ρ 0).toNat+1 by omega,
         List.take_append_of_le_length (by rw [aE];omega),List.drop_append_of_le_length (by rw [aE];omega),List.nil_append]
        simp only [List.append_assoc];congr 1;apply List.ext_getElem?;intro m;by_cases hm:m<n
        ·rw [adO (by rw [aE];exact hm),bx,if_pos hm];simp only [E.den];rcases Nat.lt_trichotomy m (i.den ρ 0).toNat with X1 | heq | XS
         ·rw [if_neg (by omega),adO (by simp [aE];omega),List.getElem?_take_of_lt X1,bx,if_pos hm]
         ·subst heq;rw [if_pos rfl,adQ (by simp [aE];omega)];simp [aE,Nat.min_eq_left (Nat.le_of_lt hm)]
         ·rw [if_neg (by omega),adQ (by simp [aE];omega)];simp only [List.length_take,aE,Nat.min_eq_left (Nat.le_of_lt cK)];obtain⟨d,rfl⟩: ∃d,m=(i.den ρ 0).toNat+1+d:=⟨m - (i.den ρ 0).toNat - 1,by omega⟩;rw [show(i.den ρ 0).toNat+1+d - (i.den ρ 0).toNat=d+1 by omega,List.singleton_append,List.getElem?_cons_succ,adO (by simp [aE];omega),
           List.getElem?_drop,bx,if_pos (by omega)]
        ·rw [adQ (by rw [aE];omega),aE,adQ (by simp [aE];omega)];simp only [List.length_take,aE,Nat.min_eq_left (Nat.le_of_lt cK)];obtain⟨d,rfl⟩: ∃d,m=n+d:=⟨m - n,by omega⟩;rw [show n+d - (i.den ρ 0).toNat=(n - (i.den ρ 0).toNat - 1)+d+1 by omega,List.singleton_append,List.getElem?_cons_succ,
          adQ (by simp [aE];omega)]
         congr 1;simp [aE];omega
       rw [this];exact h4
     ·cases h
    ·cases h
   ·cases h
  ·cases h
 ·rename_i xv i s c;split at h
  ·rename_i j v' t s' n aA vs hf H_;obtain⟨hj,dM⟩:=cX hf;simp only [Ck.mI,beq_iff_eq]at dM;subst dM;obtain⟨e1,e2⟩:=ig ρ H_ ng;split at h
   ·rename_i hc;obtain⟨rfl,hs,wH,hlen⟩:=hc;rw [adM]at h;obtain⟨aR,ew,rfl⟩:=h;refine⟨rfl,j,_,rfl,?_⟩;have hS:=cU j (by simp) _ hj;obtain⟨O7,Sn⟩:=dq ρ cb;have cK:(i.den ρ 0).toNat<(n.den ρ 0).toNat:=by omega
    obtain⟨p1,p2,p3,p4⟩:=rA ρ ew;have pR:=Ps s (fun(i:Nat)=>rowAt ρ aA i) (fun(i:Nat)=>rowAt ρ aR i) (fun i=>by rw [dj];exact hs.symm) (fun i=>by rw [dj,p1];exact hs.symm)
     (n.den ρ 0).toNat (i.den ρ 0).toNat c (SV.ar ρ vs) cK (by rw [hs];exact p2) p3 p4
    have UA:(SV.ar ρ vs).length=ti.size:=by rw [bp];exact hlen
    have hbound:(i.den ρ 0).toNat*s+c+(SV.ar ρ vs).length≤(aF ρ (n.den ρ 0).toNat aA).length:=by
     rw [dp,←hs];have:=Nat.mul_le_mul_right s (Nat.succ_le_of_lt cK);rw [Nat.succ_mul]at this;omega
    obtain⟨g,o,w',g1,g2,g3,g4,g5,g6,g7⟩:=AO (P:=P) hS _ hbound (by omega) e2;refine⟨w',?_,⟨⟨_,hj,rfl⟩,rfl,g4,g5,?_,?_⟩⟩
    ·rw [show SV.val ρ (.pv xv i s c)=eC (ρ.vv.getD xv V1.nil).v ((i.den ρ 0).toNat*s+c)from rfl,g1];exact pQ cN _ _ _ e1 UA g3
    ·intro k hk;exact g6 k (fun e=>hk (e▸g2))
    ·simp only [Ck.den];rw [show aF ρ (n.den ρ 0).toNat aR=(aec (n.den ρ 0).toNat).flatMap fun i=>rowAt ρ aR i from rfl,pR];exact g7
   ·cases h
  ·cases h
 ·cases h
end
def ft:List Value→List gl→Prop
 | [],[]=>True
 | .int q _::r,some q'::l=>q=q'∧ft r l
 | .bool _::r,none::l=>ft r l
 | _,_=>False
def r8:List Value→List Value→Bool
 | [],[]=>true
 | .int _ a::r,.int _ b::s=>a==b&&r8 r s
 | .bool a::r,.bool b::s=>a==b&&r8 r s
 | _,_=>false
theorem eH: ∀{xs:List Value} {l:List gl},ft xs l→xs.length=l.length
 | [],[],_=>rfl
 | x::r,[],h=>by cases x<;>simp [ft]at h
 | [],k::l,h=>by simp [ft]at h
 | x::r,k::l,h=>by
  have:ft r l:=by cases x<;>cases k<;>simp_all [ft]
  simp [eH this]
theorem eI: ∀{l1:List gl} {xs:List Value} {l2:List gl},ft xs (l1++l2)→ft (xs.take l1.length) l1∧ft (xs.drop l1.length) l2
 | [],xs,l2,h=>by simpa [ft] using h
 | k::l1,[],l2,h=>by simp [ft]at h
 | k::l1,x::r,l2,h=>by
  simp only [List.cons_append,List.length_cons,List.take_succ_cons,List.drop_succ_cons]at h ⊢;cases x<;>cases k<;>simp only [ft]at h ⊢
  ·exact eI h
  ·exact⟨⟨h.1,(eI h.2).1⟩,(eI h.2).2⟩
theorem oz: ∀{l:List gl} {a c b d:List Value},ft a l→ft c l→r8 (a++b) (c++d)=(r8 a c&&r8 b d)
 | [],a,c,b,d,ha,hc=>by
  have h1:=eH ha;have h2:=eH hc;have:a=[]:=adZ h1;have:c=[]:=adZ h2
  subst_vars
  simp [r8]
 | k::l,[],c,b,d,ha,hc=>by simp [ft]at ha
 | k::l,x::a,[],b,d,ha,hc=>by simp [ft]at hc
 | k::l,x::a,y::c,b,d,ha,hc=>by
  cases x<;>cases k<;>simp only [ft]at ha<;>cases y<;>simp only [ft]at hc
  ·simp only [List.cons_append,r8,oz ha hc,Bool.and_assoc]
  ·simp only [List.cons_append,r8,oz ha.2 hc.2,Bool.and_assoc]
def CW(P:Program)(t:TypeId)(cs:List Value)(x:Value):Prop:=
 match P.underlying t with
 | some (.struct _)=>x= .agg cs.toArray
 | some (.array _ _)=>x= .agg cs.toArray
 | _=>cs=[x]
section
variable {P:Program}
theorem gV(w:World){d:Nat}{t:TypeId}{l:List gl}(hl:e9 P d t=some l)(hs:P.cellsOf t=l.length)(cs:List Value)(off:Nat)
  (hf:ft ((cs.drop off).take l.length) l): ∃x,(part t cs.toArray off).run P w= .ok x w∧CW P t ((cs.drop off).take l.length) x:=by
 have DH: ∃i,P.info? t=some i∧i.size=l.length:=by
  cases d with
  | zero=>simp [e9]at hl
  | succ d=>
   cases hi:P.info? t with
   | none=>simp [e9,Program.underlying,hi]at hl
   | some i=>exact⟨i,rfl,by simpa [Program.cellsOf,hi] using hs⟩
 obtain⟨i,hi,eV⟩:=DH;have hso:(sizeOf t).run P w= .ok l.length w:=by simp [sizeOf,typeInfo,hi,eV]
 cases d with
 | zero=>simp [e9]at hl
 | succ d=>
  unfold e9 at hl;cases hu:P.underlying t with
  | none=>simp [hu]at hl
  | some td=>
   have vI:=run_underlying hu w;rw [hu]at hl;cases td with
   | int k=>
    simp only [adK]at hl;subst hl;have hlen:=eH hf;simp only [List.length_cons,List.length_nil]at hlen hf;cases hc:cs[off]? with
    | none=>
     rw [List.getElem?_eq_none_iff]at hc;rw [List.drop_of_length_le hc]at hlen;simp at hlen
    | some x=>
     refine⟨x,by simp [part,isAgg,vI,hc],?_⟩;simp only [CW,hu];have:off<cs.length:=(adJ.1 hc).1;rw [List.drop_eq_getElem_cons this];simp [(adJ.1 hc).2]
   | bool=>
    simp only [adK]at hl;subst hl;have hlen:=eH hf;simp only [List.length_cons,List.length_nil]at hlen hf;cases hc:cs[off]? with
    | none=>
     rw [List.getElem?_eq_none_iff]at hc;rw [List.drop_of_length_le hc]at hlen;simp at hlen
    | some x=>
     refine⟨x,by simp [part,isAgg,vI,hc],?_⟩;simp only [CW,hu];have:off<cs.length:=(adJ.1 hc).1;rw [List.drop_eq_getElem_cons this];simp [(adJ.1 hc).2]
   | array n e=>
    refine⟨_,by simp [part,isAgg,vI,hso];rfl,?_⟩;simp only [CW,hu]
   | struct fs=>
    refine⟨_,by simp [part,isAgg,vI,hso];rfl,?_⟩;simp only [CW,hu]
   | _=>simp at hl
def X2(P:Program)(dd:Nat)(t:TypeId)(l:List gl):Prop:=
 ∀(w:World) (xs ys:List Value) (x y:Value),ft xs l→ft ys l→CW P t xs x→CW P t ys y→(aed dd t x y).run P w= .ok (r8 xs ys) w
theorem o6(w:World)(dd:Nat){d:Nat}{e:TypeId}{l:List gl}(hl:e9 P d e=some l)(hs:P.cellsOf e=l.length)(IH:X2 P dd e l)(xs ys:List Value):
  ∀(m k:Nat),ft (xs.drop (k*l.length)) (List.replicate m l).flatten→ft (ys.drop (k*l.length)) (List.replicate m l).flatten→
   (Op.eqItems dd e (P.cellsOf e) xs.toArray ys.toArray (List.range' k m)).run P w= .ok (r8 (xs.drop (k*l.length)) (ys.drop (k*l.length))) w
 | 0,k,hx,hy=>by
  have h1:xs.drop (k*l.length)=[]:=adZ (by simpa using eH hx);have h2:ys.drop (k*l.length)=[]:=adZ (by simpa using eH hy);rw [h1,h2];simp [Op.eqItems,r8]
 | m+1,k,hx,hy=>by
  rw [List.replicate_succ,List.flatten_cons]at hx hy;obtain⟨JC,UB⟩:=eI hx;obtain⟨Lx,Rf⟩:=eI hy;rw [List.drop_drop]at UB Rf;obtain⟨a,pa,va⟩:=gV w hl hs xs (k*l.length) JC;obtain⟨b,pb,vb⟩:=gV w hl hs ys (k*l.length) Lx;have X3:=IH w _ _ a b JC Lx va vb;have ih:=o6 w dd hl hs IH xs ys m (k+1) (by rw [Nat.add_mul,Nat.one_mul];exact UB) (by rw [Nat.add_mul,Nat.one_mul];exact Rf);rw [Nat.add_mul,Nat.one_mul]at ih;have Gn:r8 (xs.drop (k*l.length)) (ys.drop (k*l.length))=
    (r8 ((xs.drop (k*l.length)).take l.length) ((ys.drop (k*l.length)).take l.length)&&r8 (xs.drop (k*l.length+l.length)) (ys.drop (k*l.length+l.length))):=by
   rw [←oz JC Lx,←List.drop_drop,←List.drop_drop,List.take_append_drop,List.take_append_drop]
  rw [List.range'_succ];simp only [Op.eqItems,adV,hs,pa,pb,X3,adR];rw [hs]at ih;rw [Gn];cases r8 ((xs.drop (k*l.length)).take l.length) ((ys.drop (k*l.length)).take l.length)
  ·simp
  ·simpa using ih
theorem nQ(w:World)(dd:Nat)(f:TypeId→Option (List gl))(d:Nat)(Rh: ∀t,f t=e9 P d t)(IH: ∀t l,e9 P d t=some l→X2 P dd t l)(xs ys:List Value):
  ∀(fs:List Field) (off:Nat) (L:List gl),jK P f fs off=some L→ft (xs.drop off) L→ft (ys.drop off) L→
   (Op.eqFields dd xs.toArray ys.toArray fs).run P w= .ok (r8 (xs.drop off) (ys.drop off)) w
 | [],off,L,h,hx,hy=>by
  simp only [jK,adK]at h;subst h;have h1:xs.drop off=[]:=adZ (by simpa using eH hx);have h2:ys.drop off=[]:=adZ (by simpa using eH hy);rw [h1,h2];simp [Op.eqFields,r8]
 | fd::fs,off,L,h,hx,hy=>by
  unfold jK at h;split at h
  ·cases h
  ·rename_i hn;simp only [Bool.or_eq_true,beq_iff_eq,bne_iff_ne,ne_eq,not_or,ad5]at hn;obtain⟨hn,rfl⟩:=hn;split at h
   ·rename_i l hl;split at h
    ·rename_i hs;rw [adM]at h;obtain⟨L',Sp,rfl⟩:=h;rw [Rh]at hl;have gN:P.cellsOf fd.type=l.length:=by simpa using hs
     obtain⟨JC,UB⟩:=eI hx;obtain⟨Lx,Rf⟩:=eI hy;rw [List.drop_drop]at UB Rf;obtain⟨a,pa,va⟩:=gV w hl gN xs fd.offset JC;obtain⟨b,pb,vb⟩:=gV w hl gN ys fd.offset Lx;have X3:=IH _ _ hl w _ _ a b JC Lx va vb;have ih:=nQ w dd f d Rh IH xs ys fs (fd.offset+l.length) L' Sp UB Rf;have Gn:r8 (xs.drop fd.offset) (ys.drop fd.offset)=
       (r8 ((xs.drop fd.offset).take l.length) ((ys.drop fd.offset).take l.length)&&r8 (xs.drop (fd.offset+l.length)) (ys.drop (fd.offset+l.length))):=by
      rw [←oz JC Lx,←List.drop_drop,←List.drop_drop,List.take_append_drop,List.take_append_drop]
     simp only [Op.eqFields,hn,ne_eq,not_false_eq_true,if_true,adV,pa,pb,X3,adR];rw [Gn];cases r8 ((xs.drop fd.offset).take l.length) ((ys.drop fd.offset).take l.length)
     ·simp
     ·simpa using ih
    ·cases h
   ·cases h
theorem mJ(k:Nat): ∀(d:Nat) (t:TypeId) (L:List gl),e9 P d t=some L→X2 P (k+d) t L
 | 0,t,L,h=>by simp [e9]at h
 | d+1,t,L,h=>by
  intro w xs ys x y hx hy vx vy;unfold e9 at h;cases hu:P.underlying t with
  | none=>simp [hu]at h
  | some td=>
   rw [hu]at h;simp only [CW,hu]at vx vy;cases td with
   | int q=>
    simp only [adK]at h;subst h vx vy;cases x<;>simp only [ft]at hx
    cases y<;>simp only [ft]at hy
    obtain⟨rfl,_⟩:=hx;obtain⟨rfl,_⟩:=hy;rw [show k+(d+1)=(k+d)+1 from rfl,run_equalIn_int w _ t _ _ _ _ hu];simp [r8]
   | bool=>
    simp only [adK]at h;subst h vx vy;cases x<;>simp only [ft]at hx
    cases y<;>simp only [ft]at hy
    rw [show k+(d+1)=(k+d)+1 from rfl,run_equalIn_bool' w _ t _ _ hu];simp [r8]
   | array n e=>
    simp only at h vx vy;subst vx vy;split at h
    ·rename_i l hl;split at h
     ·rename_i hs;simp only [adK]at h;subst h;have gN:P.cellsOf e=l.length:=by simpa using hs
      have DH: ∃i,P.info? e=some i:=by
       cases d with
       | zero=>simp [e9]at hl
       | succ d=>
        cases hi:P.info? e with
        | none=>simp [e9,Program.underlying,hi]at hl
        | some i=>exact⟨i,rfl⟩
      obtain⟨i,hi⟩:=DH;rw [show k+(d+1)=(k+d)+1 from rfl,run_equalIn_array w (k+d) _ _ hu hi,List.range_eq_range'];have:=o6 w (k+d) hl gN (mJ k d e l hl) xs ys n 0 (by simpa using hx) (by simpa using hy);simpa using this
     ·cases h
    ·cases h
   | struct fs=>
    simp only at h vx vy;subst vx vy;split at h
    ·cases h
    ·rename_i ow;have hfs:P.fieldsOf t=fs:=by simp [Program.fieldsOf,hu]
     rw [show k+(d+1)=(k+d)+1 from rfl,run_equalIn_struct w (k+d) t _ _ (by rw [hfs];exact hu) (by simpa using ow),hfs];have:=nQ w (k+d) (e9 P d) d (fun _=>rfl) (mJ k d) xs ys fs.toList 0 L h (by simpa using hx) (by simpa using hy);simpa using this
   | _=>simp at h
end
end Go.RX
