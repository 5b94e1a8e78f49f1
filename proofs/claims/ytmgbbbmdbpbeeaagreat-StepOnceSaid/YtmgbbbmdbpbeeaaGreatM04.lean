/- Executor. -/
import Derived.Test.YtmgbbbmdbpbeeaaGreatM03
open Array renaming length_toList → ajv
open Bool renaming and_eq_true → ai
open Go.IntKind renaming wrap → ae
open Go.Op renaming equalIn → aji
open Go.Result renaming andThen_ok → aiU
open Go.Sem renaming run_bind → ai2, run_pure → ajd
open Int renaming toNat_natCast → aiX
open List renaming append_assoc → ajs, drop_of_length_le → ajy, eq_nil_of_length_eq_zero → ai6, getElem?_append_left → aiR, getElem?_append_right → aiW, getElem?_eq_some_iff → aiN, map_cons → ajb, mem_filter → aja, mem_singleton → ajo, range → ajw, take_of_length_le → ajF
open Option renaming map_eq_some_iff → aiO
open Option.some renaming injEq → aiP
open Prod.mk renaming injEq → ajA
namespace Go.RX
section
variable {P:Program} {w:World} {ρ:Env}
def Reads(hp:List Ck)(ρ:Env)(w:World)(S:Nat→Nat→Prop)(rd:List Nat):Prop:=
 ∀j∈rd,∀ck,hp[j]? =some ck→(ck.den ρ).p w (S j)
theorem vr{c:Nat}{cs pre post:List SV}{k:IntKind}{n:Nat}{a:E}(h:IU c cs=some (pre,k,n,a,post)):
  SV.aA ρ cs=SV.aA ρ pre++aj k n (a.den ρ)++SV.aA ρ post∧(SV.aA ρ pre).length=c:=by
 unfold IU at h;split at h
 ·rename_i hle;split at h
  ·rename_i k' n' a' r Qy h1 h2;simp only [aiP,ajA]at h;obtain⟨rfl,rfl,rfl,rfl,rfl⟩:=h;have e1:=dQ ρ _ _ _ h1;have e2:=iq ρ _ _ _ h2;simp only [SV.aA,SV.cells]at e1;refine⟨?_,?_⟩
   ·rw [e2,ajs,e1,List.take_append_drop]
   ·rw [e2,List.length_take,bw];exact Nat.min_eq_left hle
  ·cases h
 ·cases h
theorem xX{a b:E}(h: ∀c∈dC a b,c.prop ρ):a.den ρ 0≤b.den ρ 0:=by
 unfold dC at h;split at h
 ·rename_i he;subst he;exact Int.le_refl _
 ·have key:(xd a b).den ρ=true:=by
   by_cases hl:xd a b= .lit true
   ·rw [hl];rfl
   ·exact(BE.bZ ρ _).2 (h _ (aja.2 ⟨by simp,by simpa using hl⟩))
  rw [gW]at key;exact of_decide_eq_true key
theorem MZ(k:IntKind)(n:Nat)(a:E):aK ρ n [⟨.int k,1,a⟩]=aj k n (a.den ρ):=by
 unfold aK aW aj
 induction n with
 | zero=>rfl
 | succ n ih=>
  rw [List.range_succ,List.flatMap_append,List.map_append,ih];simp [bR.cells,bd,aj]
theorem xY{ρ:Env}: ∀{cs:List SV} {o:Nat} {acc a:E},sP o acc cs=some a→
  (∀j,j<o→o4 (a.den ρ) j=o4 (acc.den ρ) j)∧(SV.aA ρ cs).length=cs.length∧∀j,j<cs.length→(SV.aA ρ cs)[j]? =some (.string ⟨(cd (o4 (a.den ρ) (o+j))).toArray⟩)
 | [],o,acc,a,h=>by
  simp only [sP,aiP]at h;subst h;exact⟨fun _ _=>rfl,rfl,fun j hj=>absurd hj (Nat.not_lt_zero _)⟩
 | v::r,o,acc,a,h=>by
  have key: ∀s:E,SV.cells ρ v=[.string ⟨(cd (s.den ρ)).toArray⟩]→sP (o+1) (.po acc (.lit o) s) r=some a→
    (∀j,j<o→o4 (a.den ρ) j=o4 (acc.den ρ) j)∧(SV.aA ρ (v::r)).length=(v::r).length∧∀j,j<(v::r).length→(SV.aA ρ (v::r))[j]? =some (.string ⟨(cd (o4 (a.den ρ) (o+j))).toArray⟩):=by
   intro s hv h;obtain⟨i1,i2,i3⟩:=xY (ρ:=ρ) h;refine⟨fun j hj=>?_,by simp [SV.aA,hv,i2],fun j hj=>?_⟩
   ·rw [i1 j (by omega),jo,jh,cH,if_neg (by simp;omega)]
   ·simp only [SV.aA,hv,List.singleton_append];cases j with
    | zero=>
     simp only [List.getElem?_cons_zero,Nat.add_zero];rw [i1 o (by omega),jo,jh,cH,if_pos (by simp)]
    | succ j=>
     rw [List.getElem?_cons_succ,i3 j (by simpa using hj)];congr 6;omega
  cases v with
  | str l=>exact key (zY l) (by simp [SV.cells,lL,nr]) (by simpa [sP] using h)
  | kK s=>exact key s rfl (by simpa [sP] using h)
  | _=>simp [sP]at h
theorem B8{ρ:Env}{cs:List SV}{a:E}(h:M0 cs=some a)(j:Nat)(hj:j<cs.length):(SV.aA ρ cs)[j]? =some (.string ⟨(cd (o4 (a.den ρ) j)).toArray⟩):=by
 have:=(xY (ρ:=ρ) h).2.2 j hj
 rwa [Nat.zero_add]at this
theorem ry{hp:List Ck}{ti:TI}(cK:kr P ti){x:SV}{res:hU}(h:w7 hp ti.k.agg ti.size x=some res)
  {S:Nat→Nat→Prop} (cP:Reads hp ρ w S res.rd) (bW: ∀b∈res.vcs,b.prop ρ):
  (Instr.loadAt ti.t (x.val ρ)).run P w= .ok (res.val.val ρ) w∧res.hZ= .none:=by
 unfold w7 at h;split at h
 ·rename_i b c;split at h
  ·rename_i j b' wr cs hf;obtain⟨hj,dA⟩:=cM hf;simp only [Ck.ra,beq_iff_eq]at dA;subst dA;split at h
   ·rename_i y hy;rw [aiO]at h;obtain⟨v,hv,rfl⟩:=h;have hS:=cP j (by simp) _ hj;obtain⟨h1,h2⟩:=eD ρ hy;refine⟨?_,rfl⟩;refine lP cK ⟨ρ.bv.getD b 0,c,none⟩ (SV.aA ρ y) (by rw [h1,List.length_take,List.length_drop];omega) ?_ _ (mB ρ hv);intro i u hu;rw [h1]at hu;refine iK hS c i u ?_;rw [List.getElem?_take]at hu;split at hu
    ·exact hu
    ·cases hu
   ·cases h
  ·cases h
 ·rename_i b i s c;split at h
  ·rename_i j b' wr cs hf;obtain⟨hj,dA⟩:=cM hf;simp only [Ck.ra,beq_iff_eq]at dA;subst dA;split at h
   ·rename_i hc;obtain⟨rfl,eS,Ab⟩:=hc;split at h
    ·rename_i pre k n a post Us;simp only [aiP]at h;subst h;have hS:=cP j (by simp) _ hj;obtain⟨e1,e2⟩:=vr (ρ:=ρ) Us;obtain⟨P5,Ut⟩:=db ρ bW;simp only [E.den]at Ut;refine⟨?_,rfl⟩;refine lP cK ⟨ρ.bv.getD b 0,(i.den ρ 0).toNat*1+c,none⟩ [.int k ((gp a i).den ρ 0)] (by simp [eS]) ?_ _ ⟨fun h=>(by rw [Ab]at h;cases h),fun _=>rfl⟩;intro m u hu;refine iK hS _ m u ?_;have hm:m=0:=by
      cases m with
      | zero=>rfl
      | succ m=>simp at hu
     subst hm;rw [e1,List.getElem?_drop,ajs,aiW (by omega),e2,aiR (by rw [aF];omega),bf,
      if_pos (by omega)]
     simp only [List.getElem?_cons_zero,aiP]at hu;rw [←hu,dY];congr 3;omega
    ·split at h
     ·rename_i hc0;split at h
      ·rename_i a zU;cases h;have hS:=cP j (by simp) _ hj;obtain⟨P5,Ut⟩:=db ρ bW;simp only [E.den]at Ut;refine⟨?_,rfl⟩;have kv:=B8 (ρ:=ρ) zU (i.den ρ 0).toNat (by omega);refine lP cK ⟨ρ.bv.getD b 0,(i.den ρ 0).toNat*1+c,none⟩ [.string ⟨(cd (o4 (a.den ρ) (i.den ρ 0).toNat)).toArray⟩] (by simp [eS]) ?_ _ ⟨fun h=>(by rw [Ab]at h;cases h),fun _=>by rw [nA,xT]⟩;intro m u hu;refine iK hS _ m u ?_;have hm:m=0:=by
        cases m with
        | zero=>rfl
        | succ m=>simp at hu
       subst hm;rw [hc0,Nat.mul_one,Nat.add_zero,List.getElem?_drop,Nat.add_zero,kv];simpa using hu
      ·cases h
     ·cases h
   ·cases h
  ·cases h
 ·rename_i v i s c;split at h
  ·rename_i j md v' t s' n aD hf;obtain⟨hj,dA⟩:=cN hf;simp only [Ck.mC,beq_iff_eq]at dA;subst dA;split at h
   ·rename_i hc;obtain⟨rfl,hs⟩:=hc;split at h
    ·split at h
     ·rename_i bX k a;split at h
      ·rename_i hca;obtain⟨rfl,Ab⟩:=hca;cases h;have hS:=cP j (by simp) _ hj;simp only at bW;have q1:=xX (ρ:=ρ) (fun b hb=>bW b (List.mem_append_left _ hb));have q2:=xX (ρ:=ρ) (fun b hb=>bW b (List.mem_append_right _ hb));rw [bI]at q2;simp only [E.den]at q1 q2;have kx:s=1:=by simpa [bT] using hs
       subst kx;obtain⟨a0,cp,hv⟩:=nE hS (by omega);refine⟨?_,rfl⟩;simp only [SV.val,ez,hv];refine lP cK _ (aj k ti.size ((jT a i).den ρ)) (aF ..) ?_ _ ⟨fun _=>by simp [SV.aA,SV.cells],fun h=>(by rw [Ab]at h;cases h)⟩;intro m u hu;rw [bf]at hu;split at hu
       ·rename_i hm;simp only [aiP]at hu;have hu':((aK ρ (n.den ρ 0).toNat [⟨.int k,1,a⟩]).drop ((i.den ρ 0).toNat*1+0))[m]? =some u:=by
         rw [MZ,List.getElem?_drop,bf,if_pos (by omega),←hu,dF];congr 3;omega
        obtain⟨a',m',cp',rb,_,kv⟩:=DR hS _ m u hu';rw [hv]at rb;cases rb;exact kv
       ·cases hu
      ·cases h
     ·cases h
    split at h
    ·rename_i es B9;split at h
     ·rename_i y hy;rw [aiO]at h;obtain⟨x,hx,rfl⟩:=h;have hS:=cP j (by simp) _ hj;obtain⟨P5,Ut⟩:=db ρ bW;obtain⟨h1,h2⟩:=eD ρ hy;have h3:=lO ρ B9;have bX:(i.den ρ 0).toNat<(n.den ρ 0).toNat:=by omega
      have Uu:=Qv ρ aD (n.den ρ 0).toNat (i.den ρ 0).toNat bX;obtain⟨a,cp,hv⟩:=nE hS (by omega);refine⟨?_,rfl⟩;simp only [SV.val,ez,hv];refine lP cK _ (SV.aA ρ y) (by rw [h1,List.length_take,List.length_drop];omega) ?_ _ (mB ρ hx);intro m u hu;have hu':((aK ρ (n.den ρ 0).toNat aD).drop ((i.den ρ 0).toNat*s+c))[m]? =some u:=by
       rw [h1,h3,←Uu,←hs]at hu;rw [List.getElem?_take]at hu;split at hu
       ·rw [List.getElem?_drop,List.getElem?_take]at hu;split at hu
        ·rw [List.getElem?_drop]at hu;rw [List.getElem?_drop,←hu];congr 1;omega
        ·cases hu
       ·cases hu
      obtain⟨a',m',cp',rb,_,kv⟩:=DR hS _ m u hu';rw [hv]at rb;cases rb;exact kv
     ·cases h
    ·cases h
   ·cases h
  ·cases h
 ·cases h
theorem iu(b:Nat): ∀(vs:List Value) (o:Nat) (w:World),(w.setCells b o vs).heap.size=w.heap.size
 | [],_,_=>rfl
 | v::r,o,w=>by rw [World.setCells,iu b r];simp [World.setCell]
theorem iy(b:Nat): ∀(vs:List Value) (o:Nat) (w:World),fZ w (w.setCells b o vs)
 | [],_,w=>fZ.refl w
 | v::r,o,w=>by
  rw [World.setCells];exact fZ.trans (b:=w.setCell ⟨b,o,none⟩ v) ⟨rfl,rfl,rfl,by simp [World.setCell]⟩ (iy b r (o+1) _)
theorem gE(b:Nat): ∀(vs:List Value) (o:Nat) (w:World) (k:Nat),k≠b→(w.setCells b o vs).heap[k]? =w.heap[k]?
 | [],_,_,_,_=>rfl
 | v::r,o,w,k,hk=>by
  rw [World.setCells,gE b r (o+1) _ k hk];simp only [World.setCell,Array.getElem?_modify];rw [if_neg (by omega)]
theorem qC{b:Nat}{cs vs:List Value}{S:Nat→Prop}(h:(al b true cs).p w S)(c:Nat)(hl:c+vs.length≤cs.length)
  (h1: ∀u∈vs,u.oneCell'=true):
  (storeCells ⟨b,c,none⟩ vs).run P w= .ok () (w.setCells b c vs)∧(al b true (cs.take c++vs++cs.drop (c+vs.length))).p (w.setCells b c vs) S:=by
 obtain⟨hS,ty,fz,hg,hf⟩:=h;have hfz:=hf rfl;subst hfz;have kv: ∀j,j<vs.length→(w.cell? ⟨b,c+j,none⟩).isSome=true:=fun j hj=>by
  rw [cell_of_row w b (c+j) _ ty (0,0) hg];simp;omega
 have Tj: ∀j,j<vs.length→w.frozen? ⟨b,c+j,none⟩=false:=fun j hj=>by
  simp [World.frozen?,hg]
 have r1:=run_storeCells_cells (P:=P) b c vs 0 w (by simpa using kv) (by simpa using Tj) h1;have r2:=run_storeCells_at (P:=P) b c ty vs 0 cs.toArray w hg (by simp;omega) h1;simp only [Nat.add_zero]at r1 r2;have e:w.setCells b c vs=w.setRow b (cs.take c++vs++cs.drop (c+vs.length)).toArray:=by
  rw [r1]at r2;injection r2
 exact⟨r1,hS,ty,(0,0),by rw [e];exact setRow_heap w b _ _ ty _ hg,fun _=>rfl⟩
theorem xZ{α:Type}(l vs:List α)(c N:Nat)(h:c+vs.length≤N)(hN:N≤l.length):
  (l.take c++vs++l.drop (c+vs.length)).take N=(l.take N).take c++vs++(l.take N).drop (c+vs.length):=by
 rw [List.take_append,ajF (l:=l.take c++vs) (by simp;omega),List.take_take,Nat.min_eq_left (by omega),List.drop_take];congr 2;simp;omega
theorem pE(l vs:List Value)(o c k:Nat)(hc:c+vs.length≤k)(hk:o+k≤l.length):
  ((l.take (o+c)++vs++l.drop (o+c+vs.length)).drop o).take k=((l.drop o).take k).take c++vs++((l.drop o).take k).drop (c+vs.length):=by
 have e1:(l.take (o+c)++vs++l.drop (o+c+vs.length)).drop o=(l.drop o).take c++vs++(l.drop o).drop (c+vs.length):=by
  rw [ajs,List.drop_append_of_le_length (by simp;omega),List.drop_take,Nat.add_sub_cancel_left,ajs,List.drop_drop,Nat.add_assoc]
 rw [e1];exact xZ (l.drop o) vs c k hc (by simp;omega)
theorem eE(g o:Nat)(t:TypeId)(fz:Nat×Nat): ∀(vs:List Value) (i:Nat) (cur:Array Value) (w:World),w.heap[g]? =some (.cells cur t fz)→rm cur.size fz→o+i+vs.length≤cur.size→(∀v∈vs,v.oneCell'=true)→
  (storeCells ⟨g,o,none⟩ vs i).run P w= .ok () (w.setRow g (cur.toList.take (o+i)++vs++cur.toList.drop (o+i+vs.length)).toArray)
 | [],i,cur,w,hg,_,_,_=>by
  simp only [storeCells,List.append_nil,List.length_nil,Nat.add_zero,List.take_append_drop,Array.toArray_toList];rw [setRow_self w g cur t fz hg];rfl
 | v::rest,i,cur,w,hg,hz,hl,h1=>by
  have hi:o+i<cur.size:=by simp at hl;omega
  have aaQ:(⟨g,o,none⟩:Addr).add i=⟨g,o+i,none⟩:=by unfold Addr.add;split<;>simp_all
  have kv:w.cell? ⟨g,o+i,none⟩=some cur[o+i]:=by simp [World.cell?,hg,hi]
  have aaR:w.frozen? ⟨g,o+i,none⟩=false:=by
   simp only [World.frozen?,hg];exact hz.off hi
  have zU:(store ((⟨g,o,none⟩:Addr).add i) v).run P w= .ok () (w.setRow g (cur.setIfInBounds (o+i) v)):=by
   rw [aaQ,run_store P w _ v _ (h1 v (by simp)),kv];simp [aaR,setCell_eq_setRow w g (o+i) cur t fz v hg]
  have ih:=eE g o t fz rest (i+1) (cur.setIfInBounds (o+i) v) (w.setRow g (cur.setIfInBounds (o+i) v)) (setRow_heap w g cur _ t _ hg) (by simpa using hz) (by simp at hl ⊢;omega) (fun x hx=>h1 x (by simp [hx]));simp only [storeCells,ai2,zU,aiU,ih,setRow_setRow];congr 3;have e:=list_seg_step cur.toList (o+i) v rest (by simp at hl ⊢;omega);simpa [Array.toList_setIfInBounds,Nat.add_assoc] using e
theorem AQ{t s n:Nat}{v:Value}{cs vs:List Value}{S:Nat→Prop}(h:(aG true t s v n cs).p w S)(c:Nat)(hl:c+vs.length≤cs.length)
  (dI:0<vs.length) (h1: ∀u∈vs,u.oneCell'=true):
  ∃g o w',ez v c= .pointer (some ⟨g,o,none⟩)∧S g∧(storeCells ⟨g,o,none⟩ vs).run P w= .ok () w'∧fZ w w'∧w'.heap.size=w.heap.size∧
   (∀k,k≠g→w'.heap[k]? =w.heap[k]?)∧(aG true t s v n (cs.take c++vs++cs.drop (c+vs.length))).p w' S:=by
 obtain⟨h0,hS⟩:=h;simp only [if_true]at h0;obtain⟨hlen,hr⟩:=h0;rcases hr with⟨_,rfl⟩ | ⟨g,o,cap,cur,rfl,⟨t',fz,hg,hz⟩,Dg,P4,mw,MN⟩
 ·rw [Nat.zero_mul]at hlen;omega
 ·have hns:n*s≤cap*s:=Nat.mul_le_mul_right _ Dg;have mw:=mw (by
   apply Nat.pos_of_ne_zero;rintro rfl;rw [Nat.zero_mul]at hns;omega)
  have aaS:o+c+vs.length≤cur.size:=by omega
  have zU:=eE (P:=P) g (o+c) t' fz vs 0 cur w hg hz (by simpa using aaS) h1;simp only [Nat.add_zero]at zU;refine⟨g,o+c,_,by simp [ez,eB],(hS g).2 ⟨by simp [Value.ownBlock],.inl rfl⟩,zU,⟨rfl,rfl,rfl,by simp⟩,by simp,fun k hk=>setRow_other w g k _ hk,?_,hS⟩;simp only [if_true];refine⟨by simp;omega,.inr ⟨g,o,cap,_,rfl,⟨t',fz,setRow_heap w g cur _ t' _ hg,by refine Eq.mp (congrArg (rm · fz) ?_) hz;simp;omega⟩,Dg,P4,?_,?_⟩⟩
  ·simp only [List.size_toArray,List.length_append,List.length_take,List.length_drop,ajv];intro _;omega
  ·rw [←MN];simp only;exact pE _ vs o c (n*s) (by omega) (by simp;omega)
theorem pF{ti:TI}(h:kr P ti)(a:Addr)(v:Value)(vs:List Value)(hv:v.cells.toList=vs)(hl:vs.length=ti.size){w':World}
  (hr:(storeCells a vs).run P w= .ok () w'):(Instr.storeAt ti.t (.pointer (some a)) v).run P w= .ok () w':=by
 have eS:v.cells.size=ti.size:=by rw [←hl,←hv];simp
 simp [Instr.storeAt,Instr.sureAddr,storeVar,h.sizeOf w,eS,hv,hr]
structure IV (P:Program) (w:World) (ρ:Env) (hp:List Ck) (S:Nat→Nat→Prop) (j:Nat) (ck:Ck) (w':World):Prop where
 WA: ∃Qz,hp[j]? =some Qz∧(Qz.den ρ).wr=true
 wr:j=j
 same:fZ w w'
 size:w'.heap.size=w.heap.size
 Un: ∀k,¬S j k→w'.heap[k]? =w.heap[k]?
 now:(ck.den ρ).p w' (S j)
theorem x_{hp:List Ck}{ti:TI}(cK:kr P ti){v x:SV}{res:hU}(h:yd hp ti.size v x=some res)(nZ:ρ.Ok)
  {S:Nat→Nat→Prop} (cP:Reads hp ρ w S res.rd) (bW: ∀b∈res.vcs,b.prop ρ):
  res.val= .undef∧∃j ck,res.hZ= .set j ck∧∃w',(Instr.storeAt ti.t (x.val ρ) (v.val ρ)).run P w= .ok () w'∧IV P w ρ hp S j ck w':=by
 unfold yd at h;split at h
 ·rename_i b c;split at h
  ·rename_i j b' cs vs hf AR;obtain⟨hj,dA⟩:=cM hf;simp only [Ck.ra,beq_iff_eq]at dA;subst dA;obtain⟨e1,e2⟩:=ir ρ AR nZ;split at h
   ·rename_i hlen;rw [aiO]at h;obtain⟨xJ,aaT,rfl⟩:=h;refine⟨rfl,j,_,rfl,?_⟩;have hS:=cP j (by simp) _ hj;obtain⟨h1,h2⟩:=ob ρ aaT;obtain⟨h3,h4⟩:=qC (P:=P) hS c h2 e2;refine⟨_,pF cK _ _ _ e1 (by rw [bw];exact hlen) h3,⟨⟨_,hj,rfl⟩,rfl,iy _ _ _ _,iu _ _ _ _,?_,?_⟩⟩
    ·intro k hk;exact gE _ _ _ _ _ (fun e=>hk ((hS.1 k).2 e))
    ·simp only [Ck.den,h1];exact h4
   ·cases h
  ·cases h
 ·rename_i b i s c;split at h
  ·rename_i j b' cs k e hf AR;obtain⟨hj,dA⟩:=cM hf;simp only [Ck.ra,beq_iff_eq]at dA;subst dA;obtain⟨e1,e2⟩:=ir ρ AR nZ;split at h
   ·rename_i hc;obtain⟨rfl,eS⟩:=hc;split at h
    ·rename_i pre k' n a post Us;split at h
     ·rename_i hk;subst hk;simp only [aiP]at h;subst h;refine⟨rfl,j,_,rfl,?_⟩;have hS:=cP j (by simp) _ hj;obtain⟨h1,h2⟩:=vr (ρ:=ρ) Us;obtain⟨P5,Ut⟩:=db ρ bW;simp only [E.den]at Ut;have bX:(i.den ρ 0).toNat<n:=by omega
      have Xf:(SV.aA ρ [SV.int k e])=[.int k (e.den ρ 0)]:=rfl;rw [Xf]at e1 e2;have dz:c+(i.den ρ 0).toNat+1≤(SV.aA ρ cs).length:=by rw [h1];simp [aF];omega
      obtain⟨h3,h4⟩:=qC (P:=P) (vs:=[.int k (e.den ρ 0)]) hS (c+(i.den ρ 0).toNat) (by simpa using dz) e2;refine⟨_,by rw [show SV.val ρ (.o5 b i 1 c)= .pointer (some ⟨ρ.bv.getD b 0,c+(i.den ρ 0).toNat,none⟩) by simp [SV.val,Nat.add_comm]];exact pF cK _ _ _ e1 (by simpa using eS.symm) h3,
       ⟨⟨_,hj,rfl⟩,rfl,iy _ _ _ _,iu _ _ _ _,?_,?_⟩⟩
      ·intro k' ku;exact gE _ _ _ _ _ (fun e=>ku ((hS.1 k').2 e))
      ·simp only [Ck.den];have:SV.aA ρ (pre++ .b_ k n (.sD a i e)::post)=(SV.aA ρ cs).take (c+(i.den ρ 0).toNat)++[.int k (e.den ρ 0)]++(SV.aA ρ cs).drop (c+(i.den ρ 0).toNat+1):=by
        rw [im,h1];simp only [SV.aA,SV.cells];have hlp:(SV.aA ρ pre).length=c:=h2;generalize SV.aA ρ pre=A at hlp ⊢;generalize SV.aA ρ post=B;rw [ajs A,List.take_append,ajF (l:=A) (by omega),hlp,show c+(i.den ρ 0).toNat - c=(i.den ρ 0).toNat by omega,
         List.drop_append,ajy (l:=A) (by omega),hlp,show c+(i.den ρ 0).toNat+1 - c=(i.den ρ 0).toNat+1 by omega,
         List.take_append_of_le_length (by rw [aF];omega),List.drop_append_of_le_length (by rw [aF];omega),List.nil_append]
        simp only [ajs];congr 1;apply List.ext_getElem?;intro m;by_cases hm:m<n
        ·rw [aiR (by rw [aF];exact hm),bf,if_pos hm];simp only [E.den];rcases Nat.lt_trichotomy m (i.den ρ 0).toNat with aaV | heq | hgt
         ·rw [if_neg (by omega),aiR (by simp [aF];omega),List.getElem?_take_of_lt aaV,bf,if_pos hm]
         ·subst heq;rw [if_pos rfl,aiW (by simp [aF];omega)];simp [aF,Nat.min_eq_left (Nat.le_of_lt hm)]
         ·rw [if_neg (by omega),aiW (by simp [aF];omega)];simp only [List.length_take,aF,Nat.min_eq_left (Nat.le_of_lt bX)];obtain⟨d,rfl⟩: ∃d,m=(i.den ρ 0).toNat+1+d:=⟨m - (i.den ρ 0).toNat - 1,by omega⟩;rw [show(i.den ρ 0).toNat+1+d - (i.den ρ 0).toNat=d+1 by omega,List.singleton_append,List.getElem?_cons_succ,aiR (by simp [aF];omega),
           List.getElem?_drop,bf,if_pos (by omega)]
        ·rw [aiW (by rw [aF];omega),aF,aiW (by simp [aF];omega)];simp only [List.length_take,aF,Nat.min_eq_left (Nat.le_of_lt bX)];obtain⟨d,rfl⟩: ∃d,m=n+d:=⟨m - n,by omega⟩;rw [show n+d - (i.den ρ 0).toNat=(n - (i.den ρ 0).toNat - 1)+d+1 by omega,List.singleton_append,List.getElem?_cons_succ,
          aiW (by simp [aF];omega)]
         congr 1;simp [aF];omega
       rw [this];exact h4
     ·cases h
    ·cases h
   ·cases h
  ·cases h
 ·rename_i xv i s c;split at h
  ·rename_i j v' t s' n aD vs hf AR;obtain⟨hj,dA⟩:=cN hf;simp only [Ck.mC,beq_iff_eq]at dA;subst dA;obtain⟨e1,e2⟩:=ir ρ AR nZ;split at h
   ·rename_i hc;obtain⟨rfl,hs,od,hlen⟩:=hc;rw [aiO]at h;obtain⟨aT,ep,rfl⟩:=h;refine⟨rfl,j,_,rfl,?_⟩;have hS:=cP j (by simp) _ hj;obtain⟨P5,Ut⟩:=db ρ bW;have bX:(i.den ρ 0).toNat<(n.den ρ 0).toNat:=by omega
    obtain⟨p1,p2,p3,p4⟩:=ru ρ ep;have pG:=Qx s (fun(i:Nat)=>rowAt ρ aD i) (fun(i:Nat)=>rowAt ρ aT i) (fun i=>by rw [c9];exact hs.symm) (fun i=>by rw [c9,p1];exact hs.symm)
     (n.den ρ 0).toNat (i.den ρ 0).toNat c (SV.aA ρ vs) bX (by rw [hs];exact p2) p3 p4
    have Xf:(SV.aA ρ vs).length=ti.size:=by rw [bw];exact hlen
    have hbound:(i.den ρ 0).toNat*s+c+(SV.aA ρ vs).length≤(aK ρ (n.den ρ 0).toNat aD).length:=by
     rw [c_,←hs];have:=Nat.mul_le_mul_right s (Nat.succ_le_of_lt bX);rw [Nat.succ_mul]at this;omega
    obtain⟨g,o,w',g1,g2,g3,g4,g5,g6,g7⟩:=AQ (P:=P) hS _ hbound (by omega) e2;refine⟨w',?_,⟨⟨_,hj,rfl⟩,rfl,g4,g5,?_,?_⟩⟩
    ·rw [show SV.val ρ (.pv xv i s c)=ez (ρ.vv.getD xv V1.nil).v ((i.den ρ 0).toNat*s+c)from rfl,g1];exact pF cK _ _ _ e1 Xf g3
    ·intro k hk;exact g6 k (fun e=>hk (e▸g2))
    ·simp only [Ck.den];rw [show aK ρ (n.den ρ 0).toNat aT=(ajw (n.den ρ 0).toNat).flatMap fun i=>rowAt ρ aT i from rfl,pG];exact g7
   ·cases h
  ·cases h
 ·cases h
end
def fp:List Value→List gj→Prop
 | [],[]=>True
 | .int q _::r,some q'::l=>q=q'∧fp r l
 | .bool _::r,none::l=>fp r l
 | _,_=>False
def rU:List Value→List Value→Bool
 | [],[]=>true
 | .int _ a::r,.int _ b::s=>a==b&&rU r s
 | .bool a::r,.bool b::s=>a==b&&rU r s
 | _,_=>false
theorem eF: ∀{xs:List Value} {l:List gj},fp xs l→xs.length=l.length
 | [],[],_=>rfl
 | x::r,[],h=>by cases x<;>simp [fp]at h
 | [],k::l,h=>by simp [fp]at h
 | x::r,k::l,h=>by
  have:fp r l:=by cases x<;>cases k<;>simp_all [fp]
  simp [eF this]
theorem eG: ∀{l1:List gj} {xs:List Value} {l2:List gj},fp xs (l1++l2)→fp (xs.take l1.length) l1∧fp (xs.drop l1.length) l2
 | [],xs,l2,h=>by simpa [fp] using h
 | k::l1,[],l2,h=>by simp [fp]at h
 | k::l1,x::r,l2,h=>by
  simp only [List.cons_append,List.length_cons,List.take_succ_cons,List.drop_succ_cons]at h ⊢;cases x<;>cases k<;>simp only [fp]at h ⊢
  ·exact eG h
  ·exact⟨⟨h.1,(eG h.2).1⟩,(eG h.2).2⟩
theorem oe: ∀{l:List gj} {a c b d:List Value},fp a l→fp c l→rU (a++b) (c++d)=(rU a c&&rU b d)
 | [],a,c,b,d,ha,hc=>by
  have h1:=eF ha;have h2:=eF hc;have:a=[]:=ai6 h1;have:c=[]:=ai6 h2
  subst_vars
  simp [rU]
 | k::l,[],c,b,d,ha,hc=>by simp [fp]at ha
 | k::l,x::a,[],b,d,ha,hc=>by simp [fp]at hc
 | k::l,x::a,y::c,b,d,ha,hc=>by
  cases x<;>cases k<;>simp only [fp]at ha<;>cases y<;>simp only [fp]at hc
  ·simp only [List.cons_append,rU,oe ha hc,Bool.and_assoc]
  ·simp only [List.cons_append,rU,oe ha.2 hc.2,Bool.and_assoc]
def Di(P:Program)(t:TypeId)(cs:List Value)(x:Value):Prop:=
 match P.underlying t with
 | some (.struct _)=>x= .agg cs.toArray
 | some (.array _ _)=>x= .agg cs.toArray
 | _=>cs=[x]
section
variable {P:Program}
theorem g9(w:World){d:Nat}{t:TypeId}{l:List gj}(hl:eX P d t=some l)(hs:P.cellsOf t=l.length)(cs:List Value)(off:Nat)
  (hf:fp ((cs.drop off).take l.length) l): ∃x,(part t cs.toArray off).run P w= .ok x w∧Di P t ((cs.drop off).take l.length) x:=by
 have DU: ∃i,P.info? t=some i∧i.size=l.length:=by
  cases d with
  | zero=>simp [eX]at hl
  | succ d=>
   cases hi:P.info? t with
   | none=>simp [eX,Program.underlying,hi]at hl
   | some i=>exact⟨i,rfl,by simpa [Program.cellsOf,hi] using hs⟩
 obtain⟨i,hi,eS⟩:=DU;have AS:(sizeOf t).run P w= .ok l.length w:=by simp [sizeOf,typeInfo,hi,eS]
 cases d with
 | zero=>simp [eX]at hl
 | succ d=>
  unfold eX at hl;cases hu:P.underlying t with
  | none=>simp [hu]at hl
  | some td=>
   have vu:=run_underlying hu w;rw [hu]at hl;cases td with
   | int k=>
    simp only [aiP]at hl;subst hl;have hlen:=eF hf;simp only [List.length_cons,List.length_nil]at hlen hf;cases hc:cs[off]? with
    | none=>
     rw [List.getElem?_eq_none_iff]at hc;rw [ajy hc]at hlen;simp at hlen
    | some x=>
     refine⟨x,by simp [part,isAgg,vu,hc],?_⟩;simp only [Di,hu];have:off<cs.length:=(aiN.1 hc).1;rw [List.drop_eq_getElem_cons this];simp [(aiN.1 hc).2]
   | bool=>
    simp only [aiP]at hl;subst hl;have hlen:=eF hf;simp only [List.length_cons,List.length_nil]at hlen hf;cases hc:cs[off]? with
    | none=>
     rw [List.getElem?_eq_none_iff]at hc;rw [ajy hc]at hlen;simp at hlen
    | some x=>
     refine⟨x,by simp [part,isAgg,vu,hc],?_⟩;simp only [Di,hu];have:off<cs.length:=(aiN.1 hc).1;rw [List.drop_eq_getElem_cons this];simp [(aiN.1 hc).2]
   | array n e=>
    refine⟨_,by simp [part,isAgg,vu,AS];rfl,?_⟩;simp only [Di,hu]
   | struct fs=>
    refine⟨_,by simp [part,isAgg,vu,AS];rfl,?_⟩;simp only [Di,hu]
   | _=>simp at hl
def EqL(P:Program)(dd:Nat)(t:TypeId)(l:List gj):Prop:=
 ∀(w:World) (xs ys:List Value) (x y:Value),fp xs l→fp ys l→Di P t xs x→Di P t ys y→(aji dd t x y).run P w= .ok (rU xs ys) w
theorem oR(w:World)(dd:Nat){d:Nat}{e:TypeId}{l:List gj}(hl:eX P d e=some l)(hs:P.cellsOf e=l.length)(IH:EqL P dd e l)(xs ys:List Value):
  ∀(m k:Nat),fp (xs.drop (k*l.length)) (List.replicate m l).flatten→fp (ys.drop (k*l.length)) (List.replicate m l).flatten→
   (Op.eqItems dd e (P.cellsOf e) xs.toArray ys.toArray (List.range' k m)).run P w= .ok (rU (xs.drop (k*l.length)) (ys.drop (k*l.length))) w
 | 0,k,hx,hy=>by
  have h1:xs.drop (k*l.length)=[]:=ai6 (by simpa using eF hx);have h2:ys.drop (k*l.length)=[]:=ai6 (by simpa using eF hy);rw [h1,h2];simp [Op.eqItems,rU]
 | m+1,k,hx,hy=>by
  rw [List.replicate_succ,List.flatten_cons]at hx hy;obtain⟨GY,Xg⟩:=eG hx;obtain⟨QA,Tk⟩:=eG hy;rw [List.drop_drop]at Xg Tk;obtain⟨a,pa,va⟩:=g9 w hl hs xs (k*l.length) GY;obtain⟨b,pb,vb⟩:=g9 w hl hs ys (k*l.length) QA;have hab:=IH w _ _ a b GY QA va vb;have ih:=oR w dd hl hs IH xs ys m (k+1) (by rw [Nat.add_mul,Nat.one_mul];exact Xg) (by rw [Nat.add_mul,Nat.one_mul];exact Tk);rw [Nat.add_mul,Nat.one_mul]at ih;have GZ:rU (xs.drop (k*l.length)) (ys.drop (k*l.length))=
    (rU ((xs.drop (k*l.length)).take l.length) ((ys.drop (k*l.length)).take l.length)&&rU (xs.drop (k*l.length+l.length)) (ys.drop (k*l.length+l.length))):=by
   rw [←oe GY QA,←List.drop_drop,←List.drop_drop,List.take_append_drop,List.take_append_drop]
  rw [List.range'_succ];simp only [Op.eqItems,ai2,hs,pa,pb,hab,aiU];rw [hs]at ih;rw [GZ];cases rU ((xs.drop (k*l.length)).take l.length) ((ys.drop (k*l.length)).take l.length)
  ·simp
  ·simpa using ih
theorem nH(w:World)(dd:Nat)(f:TypeId→Option (List gj))(d:Nat)(Tl: ∀t,f t=eX P d t)(IH: ∀t l,eX P d t=some l→EqL P dd t l)(xs ys:List Value):
  ∀(fs:List Field) (off:Nat) (L:List gj),jV P f fs off=some L→fp (xs.drop off) L→fp (ys.drop off) L→
   (Op.eqFields dd xs.toArray ys.toArray fs).run P w= .ok (rU (xs.drop off) (ys.drop off)) w
 | [],off,L,h,hx,hy=>by
  simp only [jV,aiP]at h;subst h;have h1:xs.drop off=[]:=ai6 (by simpa using eF hx);have h2:ys.drop off=[]:=ai6 (by simpa using eF hy);rw [h1,h2];simp [Op.eqFields,rU]
 | fd::fs,off,L,h,hx,hy=>by
  unfold jV at h;split at h
  ·cases h
  ·rename_i hn;simp only [Bool.or_eq_true,beq_iff_eq,bne_iff_ne,ne_eq,not_or,Decidable.not_not]at hn;obtain⟨hn,rfl⟩:=hn;split at h
   ·rename_i l hl;split at h
    ·rename_i hs;rw [aiO]at h;obtain⟨L',Uv,rfl⟩:=h;rw [Tl]at hl;have nf:P.cellsOf fd.type=l.length:=by simpa using hs
     obtain⟨GY,Xg⟩:=eG hx;obtain⟨QA,Tk⟩:=eG hy;rw [List.drop_drop]at Xg Tk;obtain⟨a,pa,va⟩:=g9 w hl nf xs fd.offset GY;obtain⟨b,pb,vb⟩:=g9 w hl nf ys fd.offset QA;have hab:=IH _ _ hl w _ _ a b GY QA va vb;have ih:=nH w dd f d Tl IH xs ys fs (fd.offset+l.length) L' Uv Xg Tk;have GZ:rU (xs.drop fd.offset) (ys.drop fd.offset)=
       (rU ((xs.drop fd.offset).take l.length) ((ys.drop fd.offset).take l.length)&&rU (xs.drop (fd.offset+l.length)) (ys.drop (fd.offset+l.length))):=by
      rw [←oe GY QA,←List.drop_drop,←List.drop_drop,List.take_append_drop,List.take_append_drop]
     simp only [Op.eqFields,hn,ne_eq,not_false_eq_true,if_true,ai2,pa,pb,hab,aiU];rw [GZ];cases rU ((xs.drop fd.offset).take l.length) ((ys.drop fd.offset).take l.length)
     ·simp
     ·simpa using ih
    ·cases h
   ·cases h
theorem mD(k:Nat): ∀(d:Nat) (t:TypeId) (L:List gj),eX P d t=some L→EqL P (k+d) t L
 | 0,t,L,h=>by simp [eX]at h
 | d+1,t,L,h=>by
  intro w xs ys x y hx hy vx vy;unfold eX at h;cases hu:P.underlying t with
  | none=>simp [hu]at h
  | some td=>
   rw [hu]at h;simp only [Di,hu]at vx vy;cases td with
   | int q=>
    simp only [aiP]at h;subst h vx vy;cases x<;>simp only [fp]at hx
    cases y<;>simp only [fp]at hy
    obtain⟨rfl,_⟩:=hx;obtain⟨rfl,_⟩:=hy;rw [show k+(d+1)=(k+d)+1 from rfl,run_equalIn_int w _ t _ _ _ _ hu];simp [rU]
   | bool=>
    simp only [aiP]at h;subst h vx vy;cases x<;>simp only [fp]at hx
    cases y<;>simp only [fp]at hy
    rw [show k+(d+1)=(k+d)+1 from rfl,run_equalIn_bool' w _ t _ _ hu];simp [rU]
   | array n e=>
    simp only at h vx vy;subst vx vy;split at h
    ·rename_i l hl;split at h
     ·rename_i hs;simp only [aiP]at h;subst h;have nf:P.cellsOf e=l.length:=by simpa using hs
      have DU: ∃i,P.info? e=some i:=by
       cases d with
       | zero=>simp [eX]at hl
       | succ d=>
        cases hi:P.info? e with
        | none=>simp [eX,Program.underlying,hi]at hl
        | some i=>exact⟨i,rfl⟩
      obtain⟨i,hi⟩:=DU;rw [show k+(d+1)=(k+d)+1 from rfl,run_equalIn_array w (k+d) _ _ hu hi,List.range_eq_range'];have:=oR w (k+d) hl nf (mD k d e l hl) xs ys n 0 (by simpa using hx) (by simpa using hy);simpa using this
     ·cases h
    ·cases h
   | struct fs=>
    simp only at h vx vy;subst vx vy;split at h
    ·cases h
    ·rename_i zU;have hfs:P.fieldsOf t=fs:=by simp [Program.fieldsOf,hu]
     rw [show k+(d+1)=(k+d)+1 from rfl,run_equalIn_struct w (k+d) t _ _ (by rw [hfs];exact hu) (by simpa using zU),hfs];have:=nH w (k+d) (eX P d) d (fun _=>rfl) (mD k d) xs ys fs.toList 0 L h (by simpa using hx) (by simpa using hy);simpa using this
   | _=>simp at h
end
theorem uy(k:IntKind)(n:Int)(h:IntKind.lo k≤n)(h':n≤IntKind.hi k):k.wrap n=n:=by
 cases k<;>simp only [IntKind.lo,IntKind.hi]at h h'<;>simp [ae,IntKind.bits,IntKind.signed]<;>omega
section
variable {P:Program} {ρ:Env} {w:World}
theorem ye{k:IntKind}{e:E}(bW: ∀b∈(yf k e).2,b.prop ρ):(yf k e).1.den ρ 0=k.wrap (e.den ρ 0):=by
 unfold yf at bW ⊢;split
 ·rfl
 ·split
  ·rename_i hs;simp only [hs,if_true]at bW;have h1:=bW (.le (.lit (IntKind.lo k)) e) (by simp);have h2:=bW (.le e (.lit (IntKind.hi k))) (by simp);simp only [BE.prop,E.den]at h1 h2;exact(uy k _ h1 h2).symm
  ·rfl
theorem M1(k:IntKind)(e:E):yg k e=yf k e∨yg k e=(.wrap k e,[]):=by
 unfold yg;split
 ·split
  ·exact .inr rfl
  ·exact .inl rfl
 ·exact .inl rfl
theorem Ku{k:IntKind}{e:E}(bW: ∀b∈(yg k e).2,b.prop ρ):(yg k e).1.den ρ 0=k.wrap (e.den ρ 0):=by
 rcases M1 k e with h | h
 ·rw [h]at bW ⊢;exact ye bW
 ·rw [h];rfl
theorem ky: ∀{l:List SV} {L:List gj},pH l L=true→fp (SV.aA ρ l) L
 | [],[],_=>trivial
 | [],k::L,h=>by simp [pH]at h
 | x::r,L,h=>by
  unfold pH at h;split at h
  ·rename_i heq;cases heq
  ·rename_i k e r' k' l heq;cases heq;simp only [ai,beq_iff_eq]at h;exact⟨h.1,ky h.2⟩
  ·rename_i b r' l heq;cases heq;exact ky (l:=r) h
  ·rename_i L k n a r' heq;cases heq;simp only [ai,decide_eq_true_eq]at h;obtain⟨⟨h1,h2⟩,h3⟩:=h;have ih:=ky (l:=r) h3;simp only [SV.aA,SV.cells];have key: ∀(m:Nat) (f:Nat→Int) (L:List gj) (xs:List Value),m≤L.length→(L.take m).all (· ==some k)=true→fp xs (L.drop m)→fp (aj k m f++xs) L:=by
    intro m
    induction m with
    | zero=>intro f L xs _ _ hf;simpa [aj] using hf
    | succ m ihm=>
     intro f L xs hle uz hf;cases L with
     | nil=>simp at hle
     | cons c L=>
      simp only [List.take_succ_cons,List.all_cons,ai,beq_iff_eq,List.drop_succ_cons,List.length_cons]at uz hf hle;have hc:=uz.1;subst hc;have:aj k (m+1) f= .int k (f 0)::aj k m (fun j=>f (j+1)):=by
       unfold aj;rw [List.range_succ_eq_map,ajb,List.map_map];rfl
      rw [this];exact⟨rfl,ihm _ L xs (by omega) uz.2 hf⟩
   exact key n _ _ _ h1 h2 ih
  ·cases h
theorem QB(k:IntKind)(n:Nat)(f g:Nat→Int)(a b:List Value):
  rU (aj k n f++a) (aj k n g++b)=((ajw n).all (fun j=>f j==g j)&&rU a b):=by
 induction n generalizing f g with
 | zero=>simp [aj]
 | succ n ih=>
  have e: ∀h:Nat→Int,aj k (n+1) h= .int k (h 0)::aj k n (fun j=>h (j+1)):=by
   intro h;unfold aj;rw [List.range_succ_eq_map,ajb,List.map_map];rfl
  rw [e f,e g,List.cons_append,List.cons_append,rU,ih,List.range_succ_eq_map,List.all_cons,List.all_map,Bool.and_assoc];rfl
theorem kz: ∀{a b:List SV} {c:BE},lf a b=some c→c.den ρ=rU (SV.aA ρ a) (SV.aA ρ b)
 | [],[],c,h=>by simp [lf]at h;subst h;rfl
 | [],y::s,c,h=>by simp [lf]at h
 | x::r,b,c,h=>by
  unfold lf at h;split at h
  ·rename_i heq;exact absurd heq (by simp)
  ·rename_i k e r' k' e' s heq;cases heq;split at h
   ·rename_i hk;subst hk;rw [aiO]at h;obtain⟨d,hd,rfl⟩:=h;rw [nB,qB,kz hd];rfl
   ·cases h
  ·rename_i p r' q s heq;cases heq;rw [aiO]at h;obtain⟨d,hd,rfl⟩:=h;rw [nB,nC,c7,kz hd];simp only [SV.aA,SV.cells,List.singleton_append,rU];cases p.den ρ<;>cases q.den ρ<;>rfl
  ·rename_i k n e r' k' n' e' s heq;cases heq;split at h
   ·rename_i hk;obtain⟨rfl,rfl⟩:=hk;rw [aiO]at h;obtain⟨d,hd,rfl⟩:=h;rw [nB,kz hd];simp only [SV.aA,SV.cells];rw [QB];congr 1;split
    ·rename_i he;subst he;simp [BE.den]
    ·rfl
   ·cases h
  ·cases h
theorem vz(k:IntKind)(a:E): ∀(l:List Nat),SV.aA ρ (l.map fun j=>SV.int k (gp a (.lit (j:Nat))))=l.map fun j=>Value.int k (a.den ρ j)
 | []=>rfl
 | x::r=>by simp only [ajb,SV.aA,SV.cells,dY,cH,aiX,List.singleton_append,vz k a r]
theorem j9: ∀(l:List SV),SV.aA ρ (mE l)=SV.aA ρ l
 | []=>rfl
 | v::r=>by
  unfold mE;split
  ·rename_i h;cases h
  ·rename_i k n a r' h;cases h;rw [im,vz,j9 r];rfl
  ·rename_i v' r' _ h;cases h;simp only [SV.aA,j9 r]
theorem sQ{a b:List SV}{c:BE}(h:yh a b=some c):c.den ρ=rU (SV.aA ρ a) (SV.aA ρ b):=by
 unfold yh at h;split at h
 ·rename_i c' hc;cases h;exact kz hc
 ·rw [kz h,j9,j9]
theorem wK(op:BinOp)(t:TypeId)(x y:Operand)(k k':IntKind)(a b:Int):(eqGuard op t x y (.int k a) (.int k' b)).run P w= .ok () w:=by
 cases op<;>simp [eqGuard]
theorem nI(op:BinOp)(t:TypeId)(x y:Operand)(a b:Bool):(eqGuard op t x y (.bool a) (.bool b)).run P w= .ok () w:=by
 cases op<;>simp [eqGuard]
def qD:Value→Bool
 | .nilIface=>false
 | .agg _=>false
 | _=>true
theorem cU(op:BinOp)(t:TypeId)(x y:Operand)(a b:Value)(h:qD a=true):(eqGuard op t x y a b).run P w= .ok () w:=by
 cases op<;>cases a<;>simp_all [eqGuard,qD]
theorem eH{b:E}(h: ∀c∈og b,c.prop ρ):0≤b.den ρ 0:=by
 by_cases hl:xd (.lit 0) b= .lit true
 ·have:(xd (.lit 0) b).den ρ=true:=by rw [hl];rfl
  rw [gW]at this;exact of_decide_eq_true this
 ·have:=h (xd (.lit 0) b) (by unfold og;simp [hl]);rw [←BE.bZ,gW]at this;exact of_decide_eq_true this
theorem QC(k yk:IntKind)(x y:Int)(h:0≤y):(Op.shift .shl k x yk y).run P w= .ok (.int k (k.wrap (x*2^min y.toNat k.bits))) w:=by
 simp [Op.shift,Int.not_lt.2 h]
theorem QD(k yk:IntKind)(x y:Int)(h:0≤y):(Op.shift .shr k x yk y).run P w= .ok (.int k (x.fdiv (2^min y.toNat k.bits))) w:=by
 simp [Op.shift,Int.not_lt.2 h]
theorem G0(ti:TI){o:BinOp}{k k':IntKind}{a b:E}{res:hU}(h:mS ti o (.int k a) (.int k' b)=some res)(bW: ∀b∈res.vcs,b.prop ρ)(t:TypeId):
  (binOp o t (.int k (a.den ρ 0)) (.int k' (b.den ρ 0))).run P w= .ok (res.val.val ρ) w∧res.hZ= .none:=by
 cases o<;>simp only [mS]at h
 case shl=>
  simp only [aiP]at h;subst h;exact⟨by simp only [binOp];rw [QC _ _ _ _ (eH bW),SV.val,lM];rfl,rfl⟩
 case shr=>
  simp only [aiP]at h;subst h;exact⟨by simp only [binOp];rw [QD _ _ _ _ (eH bW),SV.val,lM];rfl,rfl⟩
 all_goals
  split at h
  ·cases h
  ·rename_i hk;simp only [ne_eq,Decidable.not_not]at hk;subst hk
   first
   | (simp at h;done)
   | (
     simp only [aiP]at h;subst h;refine⟨?_,rfl⟩
     first
     | (simp only [binOp,ne_eq,not_true_eq_false,if_false,Op.intCmp,ajd,SV.val,qB,c7,sM,gW];first | done | rfl)
     | (simp only [binOp,ne_eq,not_true_eq_false,if_false,Op.intBits,ajd,SV.val,lM];rfl)
     | (simp only [binOp,ne_eq,not_true_eq_false,if_false,Op.intArith,ajd,SV.val,ye bW,bI,eC,fN])
     | (
      have hnz:=bW (Qu b) (by simp);rw [←BE.bZ,w_]at hnz;have aaY:b.den ρ 0≠0:=by simpa using hnz
      simp [binOp,Op.intDiv,aaY,SV.val,Kp,lM,ak]))
theorem bj{ti:TI}{o:BinOp}{xo yo:Operand}{u v:Value}{r:Result Value}(hg:(eqGuard o ti.t xo yo u v).run P w= .ok () w)(h:(binOp o ti.t u v).run P w=r):
  (do eqGuard o ti.t xo yo u v;binOp o ti.t u v:Sem Value).run P w=r:=by
 simp only [ai2,hg,aiU,h]
theorem DV{t:TypeId}(ht:P.underlying t=some .bool)(a b:Bool):(binOp .eql t (.bool a) (.bool b)).run P w= .ok (.bool (a==b)) w:=by
 simp [binOp,Op.equal,Op.maxDepth,run_equalIn_bool' w 9999 t a b ht]
theorem DW{t:TypeId}(ht:P.underlying t=some .bool)(a b:Bool):(binOp .neq t (.bool a) (.bool b)).run P w= .ok (.bool (!(a==b))) w:=by
 simp [binOp,Op.equal,Op.maxDepth,run_equalIn_bool' w 9999 t a b ht]
theorem df{t:TypeId}{x y:Value}{b:Bool}(hb:binOp .eql t x y=(do pure (.bool (←Op.equal t x y)):Sem Value))(h: ∀d,(aji (d+1) t x y).run P w= .ok b w):
  (binOp .eql t x y).run P w= .ok (.bool b) w:=by
 have:(Op.equal t x y).run P w= .ok b w:=h 9999;rw [hb];simp only [ai2,this,aiU,ajd]
theorem dh{t:TypeId}{x y:Value}{b:Bool}(hb:binOp .neq t x y=(do pure (.bool (!(←Op.equal t x y))):Sem Value))(h: ∀d,(aji (d+1) t x y).run P w= .ok b w):
  (binOp .neq t x y).run P w= .ok (.bool (!b)) w:=by
 have:(Op.equal t x y).run P w= .ok b w:=h 9999;rw [hb];simp only [ai2,this,aiU,ajd]
theorem eI{u:Option TypeDesc}{e:Nat}(h:gY u (.ptr e)=true):u=some (.pointer e):=by
 cases u with
 | none=>simp [gY]at h
 | some d=>cases d<;>simp_all [gY]
theorem bM{u:Option TypeDesc}{e:Nat}(h:gY u (.slice e)=true):u=some (.slice e):=by
 cases u with
 | none=>simp [gY]at h
 | some d=>cases d<;>simp_all [gY]
theorem nJ{u:Option TypeDesc}{n e:Nat}(h:gY u (.arr n e)=true):u=some (.array n e):=by
 cases u with
 | none=>simp [gY]at h
 | some d=>cases d<;>simp_all [gY]
theorem jr{u:Option TypeDesc}{k:IntKind}(h:gY u (.int k)=true):u=some (.int k):=by
 cases u with
 | none=>simp [gY]at h
 | some d=>cases d<;>simp_all [gY]
theorem mF{u:Option TypeDesc}{l:List (Nat×Nat)}(h:gY u (.struct l)=true): ∃fs:Array Field,u=some (.struct fs)∧fs.toList.map (fun f=>(f.type,f.offset))=l:=by
 cases u with
 | none=>simp [gY]at h
 | some d=>cases d<;>simp_all [gY]
theorem uA{u:Option TypeDesc}(h:gY u .func=true): ∃a b c,u=some (.func a b c):=by
 cases u with
 | none=>simp [gY]at h
 | some d=>cases d<;>simp_all [gY]
theorem QE{t:TypeId}{e:Nat}(hu:P.underlying t=some (.pointer e))(d:Nat):
  (aji (d+1) t (.pointer none) (.pointer none)).run P w= .ok true w:=by
 have vu:=run_underlying hu w;rw [aji];simp only [ai2,vu,aiU];rfl
theorem M3{t:TypeId}{e:Nat}{a:Addr}(hu:P.underlying t=some (.pointer e))(d:Nat):
  (aji (d+1) t (.pointer none) (.pointer (some a))).run P w= .ok false w:=by
 have vu:=run_underlying hu w;rw [aji];simp only [ai2,vu,aiU];rfl
theorem M4{t:TypeId}{e:Nat}{a:Addr}(hu:P.underlying t=some (.pointer e))(d:Nat):
  (aji (d+1) t (.pointer (some a)) (.pointer none)).run P w= .ok false w:=by
 have vu:=run_underlying hu w;rw [aji];simp only [ai2,vu,aiU];rfl
theorem Xh{t:TypeId}{e n m n' m':Nat}(hu:P.underlying t=some (.slice e))(d:Nat):
  (aji (d+1) t (.slice none n m) (.slice none n' m')).run P w= .ok true w:=by
 have vu:=run_underlying hu w;rw [aji];simp only [ai2,vu,aiU];rfl
theorem Xi{t:TypeId}{e n m n' m':Nat}{a:Addr}(hu:P.underlying t=some (.slice e))(d:Nat):
  (aji (d+1) t (.slice none n m) (.slice (some a) n' m')).run P w= .ok false w:=by
 have vu:=run_underlying hu w;rw [aji];simp only [ai2,vu,aiU];rfl
theorem Xj{t:TypeId}{e n m n' m':Nat}{a:Addr}(hu:P.underlying t=some (.slice e))(d:Nat):
  (aji (d+1) t (.slice (some a) n m) (.slice none n' m')).run P w= .ok false w:=by
 have vu:=run_underlying hu w;rw [aji];simp only [ai2,vu,aiU];rfl
theorem Xk{t:TypeId}{x:Array TypeId}{y:Array TypeId}{z:Bool}(hu:P.underlying t=some (.func x y z))(d:Nat):
  (aji (d+1) t .nilFunc .nilFunc).run P w= .ok true w:=by
 have vu:=run_underlying hu w;rw [aji];simp only [ai2,vu,aiU];rfl
theorem Xl{t:TypeId}{x:Array TypeId}{y:Array TypeId}{z:Bool}{f:Fn}{a b:Array Value}(hu:P.underlying t=some (.func x y z))(d:Nat):
  (aji (d+1) t .nilFunc (.func f a b)).run P w= .ok false w:=by
 have vu:=run_underlying hu w;rw [aji];simp only [ai2,vu,aiU];rfl
theorem Xm{t:TypeId}{x:Array TypeId}{y:Array TypeId}{z:Bool}{f:Fn}{a b:Array Value}(hu:P.underlying t=some (.func x y z))(d:Nat):
  (aji (d+1) t (.func f a b) .nilFunc).run P w= .ok false w:=by
 have vu:=run_underlying hu w;rw [aji];simp only [ai2,vu,aiU];rfl
theorem Xn{t:TypeId}{e:Nat}(hu:P.underlying t=some (.pointer e))(y:Int)(d:Nat):
  (aji (d+1) t (.pointer none) (nu y)).run P w= .ok (y==0) w:=by
 unfold nu;split
 ·rename_i h;subst h;exact QE hu d
 ·rename_i h;rw [show(y==(0:Int))=false by simpa using h];exact M3 hu d
theorem Xo{t:TypeId}{e:Nat}(hu:P.underlying t=some (.pointer e))(y:Int)(d:Nat):
  (aji (d+1) t (nu y) (.pointer none)).run P w= .ok (y==0) w:=by
 unfold nu;split
 ·rename_i h;subst h;exact QE hu d
 ·rename_i h;rw [show(y==(0:Int))=false by simpa using h];exact M4 hu d
theorem Kv(y:Int):qD (nu y)=true:=by unfold nu;split<;>rfl
theorem AT{ti:TI}(cK:kr P ti){x y:SV}{c:BE}(h:ptrEq ti.k x y=some c):
  qD (x.val ρ)=true∧(binOp .eql ti.t (x.val ρ) (y.val ρ)).run P w= .ok (.bool (c.den ρ)) w∧(binOp .neq ti.t (x.val ρ) (y.val ρ)).run P w= .ok (.bool (!c.den ρ)) w:=by
 have hk:=cK.kind;generalize ti.k=kk at h hk;unfold ptrEq at h;split at h
 ·cases h;exact⟨rfl,df rfl fun d=>QE (eI hk) d,dh rfl fun d=>QE (eI hk) d⟩
 ·cases h;exact⟨rfl,df rfl fun d=>M3 (eI hk) d,dh rfl fun d=>M3 (eI hk) d⟩
 ·cases h;exact⟨rfl,df rfl fun d=>M4 (eI hk) d,dh rfl fun d=>M4 (eI hk) d⟩
 ·cases h;exact⟨rfl,df rfl fun d=>M3 (eI hk) d,dh rfl fun d=>M3 (eI hk) d⟩
 ·cases h;exact⟨rfl,df rfl fun d=>M4 (eI hk) d,dh rfl fun d=>M4 (eI hk) d⟩
 ·cases h;exact⟨rfl,df rfl fun d=>by rw [qB];exact Xn (eI hk) _ d,dh rfl fun d=>by rw [qB];exact Xn (eI hk) _ d⟩
 ·cases h;exact⟨Kv _,df (by simp only [SV.val];unfold nu;split<;>rfl) fun d=>by rw [qB];exact Xo (eI hk) _ d,dh (by simp only [SV.val];unfold nu;split<;>rfl) fun d=>by rw [qB];exact Xo (eI hk) _ d⟩
 ·cases h;exact⟨rfl,df rfl fun d=>Xh (bM hk) d,dh rfl fun d=>Xh (bM hk) d⟩
 ·cases h;exact⟨rfl,df rfl fun d=>Xi (bM hk) d,dh rfl fun d=>Xi (bM hk) d⟩
 ·cases h;exact⟨rfl,df rfl fun d=>Xj (bM hk) d,dh rfl fun d=>Xj (bM hk) d⟩
 ·cases h;obtain⟨_,_,_,hu⟩:=uA hk;exact⟨rfl,df rfl fun d=>Xk hu d,dh rfl fun d=>Xk hu d⟩
 ·cases h;obtain⟨_,_,_,hu⟩:=uA hk;exact⟨rfl,df rfl fun d=>Xl hu d,dh rfl fun d=>Xl hu d⟩
 ·cases h;obtain⟨_,_,_,hu⟩:=uA hk;exact⟨rfl,df rfl fun d=>Xm hu d,dh rfl fun d=>Xm hu d⟩
 ·cases h
theorem qE(l:List UInt8):(⟨l.toArray⟩:ByteArray).toList=l:=by rw [ByteArray.toList_eq]
theorem vA(t:TypeId)(a b:List UInt8):(binOp .eql t (.string ⟨a.toArray⟩) (.string ⟨b.toArray⟩)).run P w= .ok (.bool (a==b)) w:=by
 rw [binOp_string_eql,qE,qE];rfl
theorem vB(t:TypeId)(a b:List UInt8):(binOp .neq t (.string ⟨a.toArray⟩) (.string ⟨b.toArray⟩)).run P w= .ok (.bool (!(a==b))) w:=by
 rw [binOp_string_neq,qE,qE];rfl
theorem Kw(a b:List UInt8):(⟨a.toArray⟩:ByteArray)++⟨b.toArray⟩=⟨(a++b).toArray⟩:=by
 apply ByteArray.ext;rw [ByteArray.data_append];simp
theorem vC(t:TypeId)(a b:List UInt8)(h:a.length+b.length≤9223372036854775807):(binOp .add t (.string ⟨a.toArray⟩) (.string ⟨b.toArray⟩)).run P w= .ok (.string ⟨(a++b).toArray⟩) w:=by
 rw [binOp_string_add,run_string_add_sum w _ _ (by simpa [ByteArray.size] using h),Kw]
theorem G1{ti:TI}{o:BinOp}{xo yo:Operand}{x y:SV}{res:hU}(h:uB o x y=some res)(bW: ∀b∈res.vcs,b.prop ρ):
  (do eqGuard o ti.t xo yo (x.val ρ) (y.val ρ);binOp o ti.t (x.val ρ) (y.val ρ):Sem Value).run P w= .ok (res.val.val ρ) w∧res.hZ= .none:=by
 unfold uB at h;split at h
 ·rename_i a b;split at h
  ·split at h
   ·rename_i hl;cases h;exact⟨bj (cU _ _ _ _ _ _ rfl) (vC _ _ _ (by omega)),rfl⟩
   ·cases h
  ·cases h;exact⟨bj (cU _ _ _ _ _ _ rfl) (vA _ _ _),rfl⟩
  ·cases h;exact⟨bj (cU _ _ _ _ _ _ rfl) (vB _ _ _),rfl⟩
  ·cases h
 ·split at h
  ·rename_i a b ha hb;have ea:=rQ ρ ha;have eb:=rQ ρ hb;rw [ea,eb];split at h
   ·cases h;have n1:0≤(kp a).den ρ 0:=eH (b:=kp a) fun c hc=>bW c (List.mem_append_left _ (List.mem_append_left _ hc))
    have n2:0≤(kp b).den ρ 0:=eH (b:=kp b) fun c hc=>bW c (List.mem_append_left _ (List.mem_append_right _ hc))
    have n3:=bW _ (List.mem_append_right _ (ajo.2 rfl));rw [←BE.bZ,gW]at n3;have n3:=of_decide_eq_true n3;rw [bI]at n3;rw [fO]at n1 n2 n3;rw [fO]at n3;simp only [cH]at n3;refine⟨bj (cU _ _ _ _ _ _ rfl) ?_,rfl⟩;rw [vC _ _ _ (by rw [cy,cy];omega),SV.val,MV ρ a b n1 n2]
   ·cases h;refine⟨bj (cU _ _ _ _ _ _ rfl) ?_,rfl⟩;rw [vA,SV.val,DM]
   ·cases h;refine⟨bj (cU _ _ _ _ _ _ rfl) ?_,rfl⟩;rw [vB,SV.val,c7,DM]
   ·cases h
  ·cases h
theorem Kx{ti:TI}(cK:kr P ti){o:BinOp}{xo yo:Operand}{x y:SV}{res:hU}(h:mS ti o x y=some res)(bW: ∀b∈res.vcs,b.prop ρ):
  (do eqGuard o ti.t xo yo (x.val ρ) (y.val ρ);binOp o ti.t (x.val ρ) (y.val ρ):Sem Value).run P w= .ok (res.val.val ρ) w∧res.hZ= .none:=by
 cases x with
 | int k a=>
  cases y with
  | int k' b=>
   obtain⟨h1,h2⟩:=G0 (w:=w) ti h bW ti.t;exact⟨bj (wK _ _ _ _ _ _ _ _) h1,h2⟩
  | _=>simp [mS,ptrEq,uB,pz]at h
 | bool a=>
  cases y with
  | bool b=>
   simp only [mS]at h;split at h
   ·cases h
   ·rename_i hk;simp only [ne_eq,Decidable.not_not]at hk;have cO:=cK.kind;rw [hk]at cO;have hu:P.underlying ti.t=some .bool:=by
     unfold gY at cO;split at cO<;>simp_all
    split at h
    ·simp only [aiP]at h;subst h;refine⟨bj (nI _ _ _ _ _ _) ?_,rfl⟩;rw [SV.val,SV.val,DV hu,SV.val,nC,c7];cases a.den ρ<;>cases b.den ρ<;>rfl
    ·simp only [aiP]at h;subst h;refine⟨bj (nI _ _ _ _ _ _) ?_,rfl⟩;rw [SV.val,SV.val,DW hu,SV.val,c7,nC,c7];cases a.den ρ<;>cases b.den ρ<;>rfl
    ·cases h
  | _=>simp [mS,ptrEq,uB,pz]at h
 | agg a=>
  cases y with
  | agg b=>
   simp only [mS]at h;split at h
   ·cases h
   ·rename_i hl;simp only [Bool.or_eq_true,Bool.not_eq_true',not_or,Bool.not_eq_true,Bool.not_eq_false]at hl;obtain⟨⟨⟨IW,Uw⟩,hl2⟩,hl3⟩:=hl;rcases cK.lay with he | ⟨aa0,Ux⟩
    ·rw [Uw]at he;cases he
    ·have hE:=mD (P:=P) 9988 12 ti.t _ aa0 w _ _ (.agg (SV.aA ρ a).toArray) (.agg (SV.aA ρ b).toArray) (ky (ρ:=ρ) hl2) (ky (ρ:=ρ) hl3);have hV: ∀cs:List Value,Di P ti.t cs (.agg cs.toArray):=by
      intro cs;have cO:=cK.kind;unfold gY at cO;unfold Di;split at cO
      all_goals first
       | (rename_i hkd;rw [hkd]at IW;simp [TK.agg]at IW;done)
       | (rename_i hu _;rw [hu])
       | cases cO
     have hE':=hE (hV _) (hV _);have hg: ∀o:BinOp,(eqGuard o ti.t xo yo (.agg (SV.aA ρ a).toArray) (.agg (SV.aA ρ b).toArray)).run P w= .ok () w:=fun o=>run_eqGuard_agg w o ti.t xo yo _ _ Ux
     split at h
     ·rename_i c hc;simp only [aiP]at h;subst h;refine⟨bj (hg _) ?_,rfl⟩;simp only [SV.val];rw [run_eql_struct,hE',aiU,sQ hc]
     ·rename_i c hc;simp only [aiP]at h;subst h;refine⟨bj (hg _) ?_,rfl⟩;simp only [SV.val];rw [run_neq_struct,hE',aiU,c7,sQ hc]
     ·cases h
  | _=>simp [mS,ptrEq,uB,pz]at h
 | _=>
  simp only [mS]at h;split at h
  ·exact G1 h bW
  split at h
  ·rename_i c hc;simp only [aiP]at h;subst h;obtain⟨h1,h2,_⟩:=AT (ρ:=ρ) (w:=w) cK hc;exact⟨bj (cU _ _ _ _ _ _ h1) h2,rfl⟩
  ·rename_i c hc;simp only [aiP]at h;subst h;obtain⟨h1,_,h2⟩:=AT (ρ:=ρ) (w:=w) cK hc;refine⟨bj (cU _ _ _ _ _ _ h1) ?_,rfl⟩;rw [h2];simp [SV.val,c7]
  ·cases h
end
end Go.RX
