/- Executor. -/
import Derived.Test.YtllcdnkfbeokhaaGreatM04
open Go.Op renaming equalIn → aqR
open Go.Result renaming andThen_ok → aqu
open Go.Sem renaming run_bind → aqA
open List renaming eq_nil_of_length_eq_zero → aqF, getElem?_append_left → aqs, getElem?_append_right → aqt, getElem?_eq_some_iff → aqo, length_append → aql, mem_filter → aqL
open Option renaming map_eq_some_iff → aqq
open Option.some renaming injEq → aqp
open Prod.mk renaming injEq → aqX
namespace Go.RX
section
variable {P:Program} {w:World} {ρ:Env}
def Reads(hp:List Ck)(ρ:Env)(w:World)(S:Nat→Nat→Prop)(rd:List Nat):Prop:=
 ∀j∈rd,∀ck,hp[j]? =some ck→(ck.den ρ).p w (S j)
theorem wC{c:Nat}{cs pre post:List SV}{k:IntKind}{n:Nat}{a:E}(h:Ii c cs=some (pre,k,n,a,post)):
  SV.ao ρ cs=SV.ao ρ pre++aj k n (a.den ρ)++SV.ao ρ post∧(SV.ao ρ pre).length=c:=by
 unfold Ii at h;split at h
 ·rename_i hle;split at h
  ·rename_i k' n' a' r UO h1 h2;simp only [aqp,aqX]at h;obtain⟨rfl,rfl,rfl,rfl,rfl⟩:=h;have e1:=eR ρ _ _ _ h1;have e2:=jq ρ _ _ _ h2;simp only [SV.ao,SV.cells]at e1;refine⟨?_,?_⟩
   ·rw [e2,List.append_assoc,e1,List.take_append_drop]
   ·rw [e2,List.length_take,bh];exact Nat.min_eq_left hle
  ·cases h
 ·cases h
theorem yB{a b:E}(h: ∀c∈ek a b,c.prop ρ):a.den ρ 0≤b.den ρ 0:=by
 unfold ek at h;split at h
 ·rename_i he;subst he;exact Int.le_refl _
 ·have key:(wz a b).den ρ=true:=by
   by_cases hl:wz a b= .lit true
   ·rw [hl];rfl
   ·exact(BE.bK ρ _).2 (h _ (aqL.2 ⟨by simp,by simpa using hl⟩))
  rw [iA]at key;exact of_decide_eq_true key
theorem Mx(k:IntKind)(n:Nat)(a:E):aF ρ n [⟨.int k,1,a⟩]=aj k n (a.den ρ):=by
 unfold aF aK aj
 induction n with
 | zero=>rfl
 | succ n ih=>
  rw [List.range_succ,List.flatMap_append,List.map_append,ih];simp [bL.cells,aC,aj]
theorem yC{ρ:Env}: ∀{cs:List SV} {o:Nat} {acc a:E},tJ o acc cs=some a→
  (∀j,j<o→pW (a.den ρ) j=pW (acc.den ρ) j)∧(SV.ao ρ cs).length=cs.length∧∀j,j<cs.length→(SV.ao ρ cs)[j]? =some (.string ⟨(dc (pW (a.den ρ) (o+j))).toArray⟩)
 | [],o,acc,a,h=>by
  simp only [tJ,aqp]at h;subst h;exact⟨fun _ _=>rfl,rfl,fun j hj=>absurd hj (Nat.not_lt_zero _)⟩
 | v::r,o,acc,a,h=>by
  have key: ∀s:E,SV.cells ρ v=[.string ⟨(dc (s.den ρ)).toArray⟩]→tJ (o+1) (.qi acc (.lit o) s) r=some a→
    (∀j,j<o→pW (a.den ρ) j=pW (acc.den ρ) j)∧(SV.ao ρ (v::r)).length=(v::r).length∧∀j,j<(v::r).length→(SV.ao ρ (v::r))[j]? =some (.string ⟨(dc (pW (a.den ρ) (o+j))).toArray⟩):=by
   intro s hv h;obtain⟨i1,i2,i3⟩:=yC (ρ:=ρ) h;refine⟨fun j hj=>?_,by simp [SV.ao,hv,i2],fun j hj=>?_⟩
   ·rw [i1 j (by omega),j5,jX,cR,if_neg (by simp;omega)]
   ·simp only [SV.ao,hv,List.singleton_append];cases j with
    | zero=>
     simp only [List.getElem?_cons_zero,Nat.add_zero];rw [i1 o (by omega),j5,jX,cR,if_pos (by simp)]
    | succ j=>
     rw [List.getElem?_cons_succ,i3 j (by simpa using hj)];congr 6;omega
  cases v with
  | str l=>exact key (Aw l) (by simp [SV.cells,mD,ou]) (by simpa [tJ] using h)
  | lD s=>exact key s rfl (by simpa [tJ] using h)
  | _=>simp [tJ]at h
theorem BY{ρ:Env}{cs:List SV}{a:E}(h:My cs=some a)(j:Nat)(hj:j<cs.length):(SV.ao ρ cs)[j]? =some (.string ⟨(dc (pW (a.den ρ) j)).toArray⟩):=by
 have:=(yC (ρ:=ρ) h).2.2 j hj
 rwa [Nat.zero_add]at this
theorem rZ{hp:List Ck}{ti:TI}(cO:kz P ti){x:SV}{res:gY}(h:xO hp ti.k.agg ti.size x=some res)
  {S:Nat→Nat→Prop} (cN:Reads hp ρ w S res.rd) (bY: ∀b∈res.vcs,b.prop ρ):
  (Instr.loadAt ti.t (x.val ρ)).run P w= .ok (res.val.val ρ) w∧res.gZ= .none:=by
 unfold xO at h;split at h
 ·rename_i b c;split at h
  ·rename_i j b' wr cs hf;obtain⟨hj,dK⟩:=de hf;simp only [Ck.rK,beq_iff_eq]at dK;subst dK;split at h
   ·rename_i y hy;rw [aqq]at h;obtain⟨v,hv,rfl⟩:=h;have hS:=cN j (by simp) _ hj;obtain⟨h1,h2⟩:=eK ρ hy;refine⟨?_,rfl⟩;refine mG cO ⟨ρ.bv.getD b 0,c,none⟩ (SV.ao ρ y) (by rw [h1,List.length_take,List.length_drop];omega) ?_ _ (np ρ hv);intro i u hu;rw [h1]at hu;refine jz hS c i u ?_;rw [List.getElem?_take]at hu;split at hu
    ·exact hu
    ·cases hu
   ·cases h
  ·cases h
 ·rename_i b i s c;split at h
  ·rename_i j b' wr cs hf;obtain⟨hj,dK⟩:=de hf;simp only [Ck.rK,beq_iff_eq]at dK;subst dK;split at h
   ·rename_i hc;obtain⟨rfl,fy,xq⟩:=hc;split at h
    ·rename_i pre k n a post UP;simp only [aqp]at h;subst h;have hS:=cN j (by simp) _ hj;obtain⟨e1,e2⟩:=wC (ρ:=ρ) UP;obtain⟨LF,Qn⟩:=du ρ bY;simp only [E.den]at Qn;refine⟨?_,rfl⟩;refine mG cO ⟨ρ.bv.getD b 0,(i.den ρ 0).toNat*1+c,none⟩ [.int k ((eu a i).den ρ 0)] (by simp [fy]) ?_ _ ⟨fun h=>(by rw [xq]at h;cases h),fun _=>rfl⟩;intro m u hu;refine jz hS _ m u ?_;have hm:m=0:=by
      cases m with
      | zero=>rfl
      | succ m=>simp at hu
     subst hm;rw [e1,List.getElem?_drop,List.append_assoc,aqt (by omega),e2,aqs (by rw [aD];omega),bt,
      if_pos (by omega)]
     simp only [List.getElem?_cons_zero,aqp]at hu;rw [←hu,cJ];congr 3;omega
    ·split at h
     ·rename_i YT;split at h
      ·rename_i a qs;cases h;have hS:=cN j (by simp) _ hj;obtain⟨LF,Qn⟩:=du ρ bY;simp only [E.den]at Qn;refine⟨?_,rfl⟩;have j6:=BY (ρ:=ρ) qs (i.den ρ 0).toNat (by omega);refine mG cO ⟨ρ.bv.getD b 0,(i.den ρ 0).toNat*1+c,none⟩ [.string ⟨(dc (pW (a.den ρ) (i.den ρ 0).toNat)).toArray⟩] (by simp [fy]) ?_ _ ⟨fun h=>(by rw [xq]at h;cases h),fun _=>by rw [oz,yz]⟩;intro m u hu;refine jz hS _ m u ?_;have hm:m=0:=by
        cases m with
        | zero=>rfl
        | succ m=>simp at hu
       subst hm;rw [YT,Nat.mul_one,Nat.add_zero,List.getElem?_drop,Nat.add_zero,j6];simpa using hu
      ·cases h
     ·cases h
   ·cases h
  ·cases h
 ·rename_i v i s c;split at h
  ·rename_i j md v' t s' n ay hf;obtain⟨hj,dK⟩:=cK hf;simp only [Ck.lP,beq_iff_eq]at dK;subst dK;split at h
   ·rename_i hc;obtain⟨rfl,hs⟩:=hc;split at h
    ·split at h
     ·rename_i cq k a;split at h
      ·rename_i hca;obtain⟨rfl,xq⟩:=hca;cases h;have hS:=cN j (by simp) _ hj;simp only at bY;have q1:=yB (ρ:=ρ) (fun b hb=>bY b (List.mem_append_left _ hb));have q2:=yB (ρ:=ρ) (fun b hb=>bY b (List.mem_append_right _ hb));rw [bB]at q2;simp only [E.den]at q1 q2;have kx:s=1:=by simpa [bW] using hs
       subst kx;obtain⟨a0,cp,hv⟩:=mH hS (by omega);refine⟨?_,rfl⟩;simp only [SV.val,ft,hv];refine mG cO _ (aj k ti.size ((kF a i).den ρ)) (aD ..) ?_ _ ⟨fun _=>by simp [SV.ao,SV.cells],fun h=>(by rw [xq]at h;cases h)⟩;intro m u hu;rw [bt]at hu;split at hu
       ·rename_i hm;simp only [aqp]at hu;have X4:((aF ρ (n.den ρ 0).toNat [⟨.int k,1,a⟩]).drop ((i.den ρ 0).toNat*1+0))[m]? =some u:=by
         rw [Mx,List.getElem?_drop,bt,if_pos (by omega),←hu,eB];congr 3;omega
        obtain⟨a',m',cp',rM,_,j6⟩:=DH hS _ m u X4;rw [hv]at rM;cases rM;exact j6
       ·cases hu
      ·cases h
     ·cases h
    split at h
    ·rename_i es xP;split at h
     ·rename_i y hy;rw [aqq]at h;obtain⟨x,hx,rfl⟩:=h;have hS:=cN j (by simp) _ hj;obtain⟨LF,Qn⟩:=du ρ bY;obtain⟨h1,h2⟩:=eK ρ hy;have h3:=mF ρ xP;have cq:(i.den ρ 0).toNat<(n.den ρ 0).toNat:=by omega
      have Gk:=Q1 ρ ay (n.den ρ 0).toNat (i.den ρ 0).toNat cq;obtain⟨a,cp,hv⟩:=mH hS (by omega);refine⟨?_,rfl⟩;simp only [SV.val,ft,hv];refine mG cO _ (SV.ao ρ y) (by rw [h1,List.length_take,List.length_drop];omega) ?_ _ (np ρ hx);intro m u hu;have X4:((aF ρ (n.den ρ 0).toNat ay).drop ((i.den ρ 0).toNat*s+c))[m]? =some u:=by
       rw [h1,h3,←Gk,←hs]at hu;rw [List.getElem?_take]at hu;split at hu
       ·rw [List.getElem?_drop,List.getElem?_take]at hu;split at hu
        ·rw [List.getElem?_drop]at hu;rw [List.getElem?_drop,←hu];congr 1;omega
        ·cases hu
       ·cases hu
      obtain⟨a',m',cp',rM,_,j6⟩:=DH hS _ m u X4;rw [hv]at rM;cases rM;exact j6
     ·cases h
    ·cases h
   ·cases h
  ·cases h
 ·cases h
theorem hZ(b:Nat): ∀(vs:List Value) (o:Nat) (w:World),(w.setCells b o vs).heap.size=w.heap.size
 | [],_,_=>rfl
 | v::r,o,w=>by rw [World.setCells,hZ b r];simp [World.setCell]
theorem h_(b:Nat): ∀(vs:List Value) (o:Nat) (w:World),ic w (w.setCells b o vs)
 | [],_,w=>ic.refl w
 | v::r,o,w=>by
  rw [World.setCells];exact ic.trans (b:=w.setCell ⟨b,o,none⟩ v) ⟨rfl,rfl,rfl,by simp [World.setCell]⟩ (h_ b r (o+1) _)
theorem gn(b:Nat): ∀(vs:List Value) (o:Nat) (w:World) (k:Nat),k≠b→(w.setCells b o vs).heap[k]? =w.heap[k]?
 | [],_,_,_,_=>rfl
 | v::r,o,w,k,hk=>by
  rw [World.setCells,gn b r (o+1) _ k hk];simp only [World.setCell,Array.getElem?_modify];rw [if_neg (by omega)]
theorem oF{b:Nat}{cs vs:List Value}{S:Nat→Prop}(h:(ak b true cs).p w S)(c:Nat)(hl:c+vs.length≤cs.length)
  (h1: ∀u∈vs,u.oneCell'=true):
  (storeCells ⟨b,c,none⟩ vs).run P w= .ok () (w.setCells b c vs)∧(ak b true (cs.take c++vs++cs.drop (c+vs.length))).p (w.setCells b c vs) S:=by
 obtain⟨hS,ty,fz,hg,hf⟩:=h;have hfz:=hf rfl;subst hfz;have j6: ∀j,j<vs.length→(w.cell? ⟨b,c+j,none⟩).isSome=true:=fun j hj=>by
  rw [cell_of_row w b (c+j) _ ty (0,0) hg];simp;omega
 have TM: ∀j,j<vs.length→w.frozen? ⟨b,c+j,none⟩=false:=fun j hj=>by
  simp [World.frozen?,hg]
 have r1:=run_storeCells_cells (P:=P) b c vs 0 w (by simpa using j6) (by simpa using TM) h1;have r2:=run_storeCells_at (P:=P) b c ty vs 0 cs.toArray w hg (by simp;omega) h1;simp only [Nat.add_zero]at r1 r2;have e:w.setCells b c vs=w.setRow b (cs.take c++vs++cs.drop (c+vs.length)).toArray:=by
  rw [r1]at r2;injection r2
 exact⟨r1,hS,ty,(0,0),by rw [e];exact setRow_heap w b _ _ ty _ hg,fun _=>rfl⟩
theorem Mz{α:Type}(l vs:List α)(c N:Nat)(h:c+vs.length≤N)(hN:N≤l.length):
  (l.take c++vs++l.drop (c+vs.length)).take N=(l.take N).take c++vs++(l.take N).drop (c+vs.length):=by
 rw [List.take_append,List.take_of_length_le (l:=l.take c++vs) (by simp;omega),List.take_take,Nat.min_eq_left (by omega),List.drop_take];congr 2;simp;omega
theorem qt(l vs:List Value)(o c k:Nat)(hc:c+vs.length≤k)(hk:o+k≤l.length):
  ((l.take (o+c)++vs++l.drop (o+c+vs.length)).drop o).take k=((l.drop o).take k).take c++vs++((l.drop o).take k).drop (c+vs.length):=by
 have e1:(l.take (o+c)++vs++l.drop (o+c+vs.length)).drop o=(l.drop o).take c++vs++(l.drop o).drop (c+vs.length):=by
  rw [List.append_assoc,List.drop_append_of_le_length (by simp;omega),List.drop_take,Nat.add_sub_cancel_left,List.append_assoc,List.drop_drop,Nat.add_assoc]
 rw [e1];exact Mz (l.drop o) vs c k hc (by simp;omega)
theorem fA(g o:Nat)(t:TypeId)(fz:Nat×Nat): ∀(vs:List Value) (i:Nat) (cur:Array Value) (w:World),w.heap[g]? =some (.cells cur t fz)→qh cur.size fz→o+i+vs.length≤cur.size→(∀v∈vs,v.oneCell'=true)→
  (storeCells ⟨g,o,none⟩ vs i).run P w= .ok () (w.setRow g (cur.toList.take (o+i)++vs++cur.toList.drop (o+i+vs.length)).toArray)
 | [],i,cur,w,hg,_,_,_=>by
  simp only [storeCells,List.append_nil,List.length_nil,Nat.add_zero,List.take_append_drop,Array.toArray_toList];rw [setRow_self w g cur t fz hg];rfl
 | v::rest,i,cur,w,hg,hz,hl,h1=>by
  have hi:o+i<cur.size:=by simp at hl;omega
  have adk:(⟨g,o,none⟩:Addr).add i=⟨g,o+i,none⟩:=by unfold Addr.add;split<;>simp_all
  have j6:w.cell? ⟨g,o+i,none⟩=some cur[o+i]:=by simp [World.cell?,hg,hi]
  have adl:w.frozen? ⟨g,o+i,none⟩=false:=by
   simp only [World.frozen?,hg];exact hz.off hi
  have qs:(store ((⟨g,o,none⟩:Addr).add i) v).run P w= .ok () (w.setRow g (cur.setIfInBounds (o+i) v)):=by
   rw [adk,run_store P w _ v _ (h1 v (by simp)),j6];simp [adl,setCell_eq_setRow w g (o+i) cur t fz v hg]
  have ih:=fA g o t fz rest (i+1) (cur.setIfInBounds (o+i) v) (w.setRow g (cur.setIfInBounds (o+i) v)) (setRow_heap w g cur _ t _ hg) (by simpa using hz) (by simp at hl ⊢;omega) (fun x hx=>h1 x (by simp [hx]));simp only [storeCells,aqA,qs,aqu,ih,setRow_setRow];congr 3;have e:=list_seg_step cur.toList (o+i) v rest (by simp at hl ⊢;omega);simpa [Array.toList_setIfInBounds,Nat.add_assoc] using e
theorem Ba{t s n:Nat}{v:Value}{cs vs:List Value}{S:Nat→Prop}(h:(aB true t s v n cs).p w S)(c:Nat)(hl:c+vs.length≤cs.length)
  (fg:0<vs.length) (h1: ∀u∈vs,u.oneCell'=true):
  ∃g o w',ft v c= .pointer (some ⟨g,o,none⟩)∧S g∧(storeCells ⟨g,o,none⟩ vs).run P w= .ok () w'∧ic w w'∧w'.heap.size=w.heap.size∧
   (∀k,k≠g→w'.heap[k]? =w.heap[k]?)∧(aB true t s v n (cs.take c++vs++cs.drop (c+vs.length))).p w' S:=by
 obtain⟨h0,hS⟩:=h;simp only [if_true]at h0;obtain⟨hlen,hr⟩:=h0;rcases hr with⟨_,rfl⟩ | ⟨g,o,cap,cur,rfl,⟨t',fz,hg,hz⟩,Dc,QX,mC,tC⟩
 ·rw [Nat.zero_mul]at hlen;omega
 ·have hns:n*s≤cap*s:=Nat.mul_le_mul_right _ Dc;have mC:=mC (by
   apply Nat.pos_of_ne_zero;rintro rfl;rw [Nat.zero_mul]at hns;omega)
  have MA:o+c+vs.length≤cur.size:=by omega
  have qs:=fA (P:=P) g (o+c) t' fz vs 0 cur w hg hz (by simpa using MA) h1;simp only [Nat.add_zero]at qs;refine⟨g,o+c,_,by simp [ft,fw],(hS g).2 ⟨by simp [Value.ownBlock],.inl rfl⟩,qs,⟨rfl,rfl,rfl,by simp⟩,by simp,fun k hk=>setRow_other w g k _ hk,?_,hS⟩;simp only [if_true];refine⟨by simp;omega,.inr ⟨g,o,cap,_,rfl,⟨t',fz,setRow_heap w g cur _ t' _ hg,by refine Eq.mp (congrArg (qh · fz) ?_) hz;simp;omega⟩,Dc,QX,?_,?_⟩⟩
  ·simp only [List.size_toArray,aql,List.length_take,List.length_drop,Array.length_toList];intro _;omega
  ·rw [←tC];simp only;exact qt _ vs o c (n*s) (by omega) (by simp;omega)
theorem qu{ti:TI}(h:kz P ti)(a:Addr)(v:Value)(vs:List Value)(hv:v.cells.toList=vs)(hl:vs.length=ti.size){w':World}
  (hr:(storeCells a vs).run P w= .ok () w'):(Instr.storeAt ti.t (.pointer (some a)) v).run P w= .ok () w':=by
 have fy:v.cells.size=ti.size:=by rw [←hl,←hv];simp
 simp [Instr.storeAt,Instr.sureAddr,storeVar,h.sizeOf w,fy,hv,hr]
structure Bb (P:Program) (w:World) (ρ:Env) (hp:List Ck) (S:Nat→Nat→Prop) (j:Nat) (ck:Ck) (w':World):Prop where
 old: ∃Q3,hp[j]? =some Q3∧(Q3.den ρ).wr=true
 wr:j=j
 same:ic w w'
 size:w'.heap.size=w.heap.size
 UL: ∀k,¬S j k→w'.heap[k]? =w.heap[k]?
 now:(ck.den ρ).p w' (S j)
theorem yD{hp:List Ck}{ti:TI}(cO:kz P ti){v x:SV}{res:gY}(h:yE hp ti.size v x=some res)(jf:ρ.Ok)
  {S:Nat→Nat→Prop} (cN:Reads hp ρ w S res.rd) (bY: ∀b∈res.vcs,b.prop ρ):
  res.val= .undef∧∃j ck,res.gZ= .set j ck∧∃w',(Instr.storeAt ti.t (x.val ρ) (v.val ρ)).run P w= .ok () w'∧Bb P w ρ hp S j ck w':=by
 unfold yE at h;split at h
 ·rename_i b c;split at h
  ·rename_i j b' cs vs hf FQ;obtain⟨hj,dK⟩:=de hf;simp only [Ck.rK,beq_iff_eq]at dK;subst dK;obtain⟨e1,e2⟩:=jr ρ FQ jf;split at h
   ·rename_i hlen;rw [aqq]at h;obtain⟨tI,adn,rfl⟩:=h;refine⟨rfl,j,_,rfl,?_⟩;have hS:=cN j (by simp) _ hj;obtain⟨h1,h2⟩:=lS ρ adn;obtain⟨h3,h4⟩:=oF (P:=P) hS c h2 e2;refine⟨_,qu cO _ _ _ e1 (by rw [bh];exact hlen) h3,⟨⟨_,hj,rfl⟩,rfl,h_ _ _ _ _,hZ _ _ _ _,?_,?_⟩⟩
    ·intro k hk;exact gn _ _ _ _ _ (fun e=>hk ((hS.1 k).2 e))
    ·simp only [Ck.den,h1];exact h4
   ·cases h
  ·cases h
 ·rename_i b i s c;split at h
  ·rename_i j b' cs k e hf FQ;obtain⟨hj,dK⟩:=de hf;simp only [Ck.rK,beq_iff_eq]at dK;subst dK;obtain⟨e1,e2⟩:=jr ρ FQ jf;split at h
   ·rename_i hc;obtain⟨rfl,fy⟩:=hc;split at h
    ·rename_i pre k' n a post UP;split at h
     ·rename_i hk;subst hk;simp only [aqp]at h;subst h;refine⟨rfl,j,_,rfl,?_⟩;have hS:=cN j (by simp) _ hj;obtain⟨h1,h2⟩:=wC (ρ:=ρ) UP;obtain⟨LF,Qn⟩:=du ρ bY;simp only [E.den]at Qn;have cq:(i.den ρ 0).toNat<n:=by omega
      have YS:(SV.ao ρ [SV.int k e])=[.int k (e.den ρ 0)]:=rfl;rw [YS]at e1 e2;have eG:c+(i.den ρ 0).toNat+1≤(SV.ao ρ cs).length:=by rw [h1];simp [aD];omega
      obtain⟨h3,h4⟩:=oF (P:=P) (vs:=[.int k (e.den ρ 0)]) hS (c+(i.den ρ 0).toNat) (by simpa using eG) e2;refine⟨_,by rw [show SV.val ρ (.pX b i 1 c)= .pointer (some ⟨ρ.bv.getD b 0,c+(i.den ρ 0).toNat,none⟩) by simp [SV.val,Nat.add_comm]];exact qu cO _ _ _ e1 (by simpa using fy.symm) h3,
       ⟨⟨_,hj,rfl⟩,rfl,h_ _ _ _ _,hZ _ _ _ _,?_,?_⟩⟩
      ·intro k' kv;exact gn _ _ _ _ _ (fun e=>kv ((hS.1 k').2 e))
      ·simp only [Ck.den];have:SV.ao ρ (pre++ .cQ k n (.m7 a i e)::post)=(SV.ao ρ cs).take (c+(i.den ρ 0).toNat)++[.int k (e.den ρ 0)]++(SV.ao ρ cs).drop (c+(i.den ρ 0).toNat+1):=by
        rw [hY,h1];simp only [SV.ao,SV.cells];have hlp:(SV.ao ρ pre).length=c:=h2;generalize SV.ao ρ pre=A at hlp ⊢;generalize SV.ao ρ post=B;rw [List.append_assoc A,List.take_append,List.take_of_length_le (l:=A) (by omega),hlp,show c+(i.den ρ 0).toNat - c=(i.den ρ 0).toNat by omega,
         List.drop_append,List.drop_of_length_le (l:=A) (by omega),hlp,show c+(i.den ρ 0).toNat+1 - c=(i.den ρ 0).toNat+1 by omega,
         List.take_append_of_le_length (by rw [aD];omega),List.drop_append_of_le_length (by rw [aD];omega),List.nil_append]
        simp only [List.append_assoc];congr 1;apply List.ext_getElem?;intro m;by_cases hm:m<n
        ·rw [aqs (by rw [aD];exact hm),bt,if_pos hm];simp only [E.den];rcases Nat.lt_trichotomy m (i.den ρ 0).toNat with adp | heq | hgt
         ·rw [if_neg (by omega),aqs (by simp [aD];omega),List.getElem?_take_of_lt adp,bt,if_pos hm]
         ·subst heq;rw [if_pos rfl,aqt (by simp [aD];omega)];simp [aD,Nat.min_eq_left (Nat.le_of_lt hm)]
         ·rw [if_neg (by omega),aqt (by simp [aD];omega)];simp only [List.length_take,aD,Nat.min_eq_left (Nat.le_of_lt cq)];obtain⟨d,rfl⟩: ∃d,m=(i.den ρ 0).toNat+1+d:=⟨m - (i.den ρ 0).toNat - 1,by omega⟩;rw [show(i.den ρ 0).toNat+1+d - (i.den ρ 0).toNat=d+1 by omega,List.singleton_append,List.getElem?_cons_succ,aqs (by simp [aD];omega),
           List.getElem?_drop,bt,if_pos (by omega)]
        ·rw [aqt (by rw [aD];omega),aD,aqt (by simp [aD];omega)];simp only [List.length_take,aD,Nat.min_eq_left (Nat.le_of_lt cq)];obtain⟨d,rfl⟩: ∃d,m=n+d:=⟨m - n,by omega⟩;rw [show n+d - (i.den ρ 0).toNat=(n - (i.den ρ 0).toNat - 1)+d+1 by omega,List.singleton_append,List.getElem?_cons_succ,
          aqt (by simp [aD];omega)]
         congr 1;simp [aD];omega
       rw [this];exact h4
     ·cases h
    ·cases h
   ·cases h
  ·cases h
 ·rename_i xv i s c;split at h
  ·rename_i j v' t s' n ay vs hf FQ;obtain⟨hj,dK⟩:=cK hf;simp only [Ck.lP,beq_iff_eq]at dK;subst dK;obtain⟨e1,e2⟩:=jr ρ FQ jf;split at h
   ·rename_i hc;obtain⟨rfl,hs,u_,hlen⟩:=hc;rw [aqq]at h;obtain⟨aN,eT,rfl⟩:=h;refine⟨rfl,j,_,rfl,?_⟩;have hS:=cN j (by simp) _ hj;obtain⟨LF,Qn⟩:=du ρ bY;have cq:(i.den ρ 0).toNat<(n.den ρ 0).toNat:=by omega
    obtain⟨p1,p2,p3,p4⟩:=rY ρ eT;have nR:=Q2 s (fun(i:Nat)=>rowAt ρ ay i) (fun(i:Nat)=>rowAt ρ aN i) (fun i=>by rw [dC];exact hs.symm) (fun i=>by rw [dC,p1];exact hs.symm)
     (n.den ρ 0).toNat (i.den ρ 0).toNat c (SV.ao ρ vs) cq (by rw [hs];exact p2) p3 p4
    have YS:(SV.ao ρ vs).length=ti.size:=by rw [bh];exact hlen
    have hbound:(i.den ρ 0).toNat*s+c+(SV.ao ρ vs).length≤(aF ρ (n.den ρ 0).toNat ay).length:=by
     rw [dS,←hs];have:=Nat.mul_le_mul_right s (Nat.succ_le_of_lt cq);rw [Nat.succ_mul]at this;omega
    obtain⟨g,o,w',g1,g2,g3,g4,g5,g6,g7⟩:=Ba (P:=P) hS _ hbound (by omega) e2;refine⟨w',?_,⟨⟨_,hj,rfl⟩,rfl,g4,g5,?_,?_⟩⟩
    ·rw [show SV.val ρ (.pv xv i s c)=ft (ρ.vv.getD xv V1.nil).v ((i.den ρ 0).toNat*s+c)from rfl,g1];exact qu cO _ _ _ e1 YS g3
    ·intro k hk;exact g6 k (fun e=>hk (e▸g2))
    ·simp only [Ck.den];rw [show aF ρ (n.den ρ 0).toNat aN=(List.range (n.den ρ 0).toNat).flatMap fun i=>rowAt ρ aN i from rfl,nR];exact g7
   ·cases h
  ·cases h
 ·cases h
end
def gy:List Value→List iB→Prop
 | [],[]=>True
 | .int q _::r,some q'::l=>q=q'∧gy r l
 | .bool _::r,none::l=>gy r l
 | _,_=>False
def sI:List Value→List Value→Bool
 | [],[]=>true
 | .int _ a::r,.int _ b::s=>a==b&&sI r s
 | .bool a::r,.bool b::s=>a==b&&sI r s
 | _,_=>false
theorem fB: ∀{xs:List Value} {l:List iB},gy xs l→xs.length=l.length
 | [],[],_=>rfl
 | x::r,[],h=>by cases x<;>simp [gy]at h
 | [],k::l,h=>by simp [gy]at h
 | x::r,k::l,h=>by
  have:gy r l:=by cases x<;>cases k<;>simp_all [gy]
  simp [fB this]
theorem fC: ∀{l1:List iB} {xs:List Value} {l2:List iB},gy xs (l1++l2)→gy (xs.take l1.length) l1∧gy (xs.drop l1.length) l2
 | [],xs,l2,h=>by simpa [gy] using h
 | k::l1,[],l2,h=>by simp [gy]at h
 | k::l1,x::r,l2,h=>by
  simp only [List.cons_append,List.length_cons,List.take_succ_cons,List.drop_succ_cons]at h ⊢;cases x<;>cases k<;>simp only [gy]at h ⊢
  ·exact fC h
  ·exact⟨⟨h.1,(fC h.2).1⟩,(fC h.2).2⟩
theorem o5: ∀{l:List iB} {a c b d:List Value},gy a l→gy c l→sI (a++b) (c++d)=(sI a c&&sI b d)
 | [],a,c,b,d,ha,hc=>by
  have h1:=fB ha;have h2:=fB hc;have:a=[]:=aqF h1;have:c=[]:=aqF h2
  subst_vars
  simp [sI]
 | k::l,[],c,b,d,ha,hc=>by simp [gy]at ha
 | k::l,x::a,[],b,d,ha,hc=>by simp [gy]at hc
 | k::l,x::a,y::c,b,d,ha,hc=>by
  cases x<;>cases k<;>simp only [gy]at ha<;>cases y<;>simp only [gy]at hc
  ·simp only [List.cons_append,sI,o5 ha hc,Bool.and_assoc]
  ·simp only [List.cons_append,sI,o5 ha.2 hc.2,Bool.and_assoc]
def Dd(P:Program)(t:TypeId)(cs:List Value)(x:Value):Prop:=
 match P.underlying t with
 | some (.struct _)=>x= .agg cs.toArray
 | some (.array _ _)=>x= .agg cs.toArray
 | _=>cs=[x]
section
variable {P:Program}
theorem iX(w:World){d:Nat}{t:TypeId}{l:List iB}(hl:fY P d t=some l)(hs:P.cellsOf t=l.length)(cs:List Value)(off:Nat)
  (hf:gy ((cs.drop off).take l.length) l): ∃x,(part t cs.toArray off).run P w= .ok x w∧Dd P t ((cs.drop off).take l.length) x:=by
 have DJ: ∃i,P.info? t=some i∧i.size=l.length:=by
  cases d with
  | zero=>simp [fY]at hl
  | succ d=>
   cases hi:P.info? t with
   | none=>simp [fY,Program.underlying,hi]at hl
   | some i=>exact⟨i,rfl,by simpa [Program.cellsOf,hi] using hs⟩
 obtain⟨i,hi,fy⟩:=DJ;have hso:(sizeOf t).run P w= .ok l.length w:=by simp [sizeOf,typeInfo,hi,fy]
 cases d with
 | zero=>simp [fY]at hl
 | succ d=>
  unfold fY at hl;cases hu:P.underlying t with
  | none=>simp [hu]at hl
  | some td=>
   have wD:=run_underlying hu w;rw [hu]at hl;cases td with
   | int k=>
    simp only [aqp]at hl;subst hl;have hlen:=fB hf;simp only [List.length_cons,List.length_nil]at hlen hf;cases hc:cs[off]? with
    | none=>
     rw [List.getElem?_eq_none_iff]at hc;rw [List.drop_of_length_le hc]at hlen;simp at hlen
    | some x=>
     refine⟨x,by simp [part,isAgg,wD,hc],?_⟩;simp only [Dd,hu];have:off<cs.length:=(aqo.1 hc).1;rw [List.drop_eq_getElem_cons this];simp [(aqo.1 hc).2]
   | bool=>
    simp only [aqp]at hl;subst hl;have hlen:=fB hf;simp only [List.length_cons,List.length_nil]at hlen hf;cases hc:cs[off]? with
    | none=>
     rw [List.getElem?_eq_none_iff]at hc;rw [List.drop_of_length_le hc]at hlen;simp at hlen
    | some x=>
     refine⟨x,by simp [part,isAgg,wD,hc],?_⟩;simp only [Dd,hu];have:off<cs.length:=(aqo.1 hc).1;rw [List.drop_eq_getElem_cons this];simp [(aqo.1 hc).2]
   | array n e=>
    refine⟨_,by simp [part,isAgg,wD,hso];rfl,?_⟩;simp only [Dd,hu]
   | struct fs=>
    refine⟨_,by simp [part,isAgg,wD,hso];rfl,?_⟩;simp only [Dd,hu]
   | _=>simp at hl
def EqL(P:Program)(dd:Nat)(t:TypeId)(l:List iB):Prop:=
 ∀(w:World) (xs ys:List Value) (x y:Value),gy xs l→gy ys l→Dd P t xs x→Dd P t ys y→(aqR dd t x y).run P w= .ok (sI xs ys) w
theorem pJ(w:World)(dd:Nat){d:Nat}{e:TypeId}{l:List iB}(hl:fY P d e=some l)(hs:P.cellsOf e=l.length)(IH:EqL P dd e l)(xs ys:List Value):
  ∀(m k:Nat),gy (xs.drop (k*l.length)) (List.replicate m l).flatten→gy (ys.drop (k*l.length)) (List.replicate m l).flatten→
   (Op.eqItems dd e (P.cellsOf e) xs.toArray ys.toArray (List.range' k m)).run P w= .ok (sI (xs.drop (k*l.length)) (ys.drop (k*l.length))) w
 | 0,k,hx,hy=>by
  have h1:xs.drop (k*l.length)=[]:=aqF (by simpa using fB hx);have h2:ys.drop (k*l.length)=[]:=aqF (by simpa using fB hy);rw [h1,h2];simp [Op.eqItems,sI]
 | m+1,k,hx,hy=>by
  rw [List.replicate_succ,List.flatten_cons]at hx hy;obtain⟨JG,YU⟩:=fC hx;obtain⟨Q4,TN⟩:=fC hy;rw [List.drop_drop]at YU TN;obtain⟨a,pa,va⟩:=iX w hl hs xs (k*l.length) JG;obtain⟨b,pb,vb⟩:=iX w hl hs ys (k*l.length) Q4;have YV:=IH w _ _ a b JG Q4 va vb;have ih:=pJ w dd hl hs IH xs ys m (k+1) (by rw [Nat.add_mul,Nat.one_mul];exact YU) (by rw [Nat.add_mul,Nat.one_mul];exact TN);rw [Nat.add_mul,Nat.one_mul]at ih;have Gl:sI (xs.drop (k*l.length)) (ys.drop (k*l.length))=
    (sI ((xs.drop (k*l.length)).take l.length) ((ys.drop (k*l.length)).take l.length)&&sI (xs.drop (k*l.length+l.length)) (ys.drop (k*l.length+l.length))):=by
   rw [←o5 JG Q4,←List.drop_drop,←List.drop_drop,List.take_append_drop,List.take_append_drop]
  rw [List.range'_succ];simp only [Op.eqItems,aqA,hs,pa,pb,YV,aqu];rw [hs]at ih;rw [Gl];cases sI ((xs.drop (k*l.length)).take l.length) ((ys.drop (k*l.length)).take l.length)
  ·simp
  ·simpa using ih
theorem oG(w:World)(dd:Nat)(f:TypeId→Option (List iB))(d:Nat)(TO: ∀t,f t=fY P d t)(IH: ∀t l,fY P d t=some l→EqL P dd t l)(xs ys:List Value):
  ∀(fs:List Field) (off:Nat) (L:List iB),kH P f fs off=some L→gy (xs.drop off) L→gy (ys.drop off) L→
   (Op.eqFields dd xs.toArray ys.toArray fs).run P w= .ok (sI (xs.drop off) (ys.drop off)) w
 | [],off,L,h,hx,hy=>by
  simp only [kH,aqp]at h;subst h;have h1:xs.drop off=[]:=aqF (by simpa using fB hx);have h2:ys.drop off=[]:=aqF (by simpa using fB hy);rw [h1,h2];simp [Op.eqFields,sI]
 | fd::fs,off,L,h,hx,hy=>by
  unfold kH at h;split at h
  ·cases h
  ·rename_i hn;simp only [Bool.or_eq_true,beq_iff_eq,bne_iff_ne,ne_eq,not_or,Decidable.not_not]at hn;obtain⟨hn,rfl⟩:=hn;split at h
   ·rename_i l hl;split at h
    ·rename_i hs;rw [aqq]at h;obtain⟨L',UQ,rfl⟩:=h;rw [TO]at hl;have kT:P.cellsOf fd.type=l.length:=by simpa using hs
     obtain⟨JG,YU⟩:=fC hx;obtain⟨Q4,TN⟩:=fC hy;rw [List.drop_drop]at YU TN;obtain⟨a,pa,va⟩:=iX w hl kT xs fd.offset JG;obtain⟨b,pb,vb⟩:=iX w hl kT ys fd.offset Q4;have YV:=IH _ _ hl w _ _ a b JG Q4 va vb;have ih:=oG w dd f d TO IH xs ys fs (fd.offset+l.length) L' UQ YU TN;have Gl:sI (xs.drop fd.offset) (ys.drop fd.offset)=
       (sI ((xs.drop fd.offset).take l.length) ((ys.drop fd.offset).take l.length)&&sI (xs.drop (fd.offset+l.length)) (ys.drop (fd.offset+l.length))):=by
      rw [←o5 JG Q4,←List.drop_drop,←List.drop_drop,List.take_append_drop,List.take_append_drop]
     simp only [Op.eqFields,hn,ne_eq,not_false_eq_true,if_true,aqA,pa,pb,YV,aqu];rw [Gl];cases sI ((xs.drop fd.offset).take l.length) ((ys.drop fd.offset).take l.length)
     ·simp
     ·simpa using ih
    ·cases h
   ·cases h
theorem nq(k:Nat): ∀(d:Nat) (t:TypeId) (L:List iB),fY P d t=some L→EqL P (k+d) t L
 | 0,t,L,h=>by simp [fY]at h
 | d+1,t,L,h=>by
  intro w xs ys x y hx hy vx vy;unfold fY at h;cases hu:P.underlying t with
  | none=>simp [hu]at h
  | some td=>
   rw [hu]at h;simp only [Dd,hu]at vx vy;cases td with
   | int q=>
    simp only [aqp]at h;subst h vx vy;cases x<;>simp only [gy]at hx
    cases y<;>simp only [gy]at hy
    obtain⟨rfl,_⟩:=hx;obtain⟨rfl,_⟩:=hy;rw [show k+(d+1)=(k+d)+1 from rfl,run_equalIn_int w _ t _ _ _ _ hu];simp [sI]
   | bool=>
    simp only [aqp]at h;subst h vx vy;cases x<;>simp only [gy]at hx
    cases y<;>simp only [gy]at hy
    rw [show k+(d+1)=(k+d)+1 from rfl,run_equalIn_bool' w _ t _ _ hu];simp [sI]
   | array n e=>
    simp only at h vx vy;subst vx vy;split at h
    ·rename_i l hl;split at h
     ·rename_i hs;simp only [aqp]at h;subst h;have kT:P.cellsOf e=l.length:=by simpa using hs
      have DJ: ∃i,P.info? e=some i:=by
       cases d with
       | zero=>simp [fY]at hl
       | succ d=>
        cases hi:P.info? e with
        | none=>simp [fY,Program.underlying,hi]at hl
        | some i=>exact⟨i,rfl⟩
      obtain⟨i,hi⟩:=DJ;rw [show k+(d+1)=(k+d)+1 from rfl,run_equalIn_array w (k+d) _ _ hu hi,List.range_eq_range'];have:=pJ w (k+d) hl kT (nq k d e l hl) xs ys n 0 (by simpa using hx) (by simpa using hy);simpa using this
     ·cases h
    ·cases h
   | struct fs=>
    simp only at h vx vy;subst vx vy;split at h
    ·cases h
    ·rename_i qs;have hfs:P.fieldsOf t=fs:=by simp [Program.fieldsOf,hu]
     rw [show k+(d+1)=(k+d)+1 from rfl,run_equalIn_struct w (k+d) t _ _ (by rw [hfs];exact hu) (by simpa using qs),hfs];have:=oG w (k+d) (fY P d) d (fun _=>rfl) (nq k d) xs ys fs.toList 0 L h (by simpa using hx) (by simpa using hy);simpa using this
   | _=>simp at h
end
end Go.RX
