/- Executor. -/
import Derived.Test.YtphemenngjkfbaaM04
open Decidable renaming not_not → agN
open Go.Op renaming equalIn → ag1
open Go.Result renaming andThen_ok → agG
open Go.Sem renaming run_bind → agK
open List renaming append_assoc → ahf, append_nil → agL, eq_nil_of_length_eq_zero → agU, getElem?_append_left → agC, getElem?_append_right → agD, getElem?_eq_some_iff → agx, mem_filter → agP, range → ag5
open Option renaming map_eq_some_iff → agz
open Option.some renaming injEq → agy
open Prod.mk renaming injEq → ag_
namespace Go.RX
section
variable {P:Program} {w:World} {ρ:Env}
def Reads(hp:List Ck)(ρ:Env)(w:World)(S:Nat→Nat→Prop)(rd:List Nat):Prop:=
 ∀j∈rd,∀ck,hp[j]? =some ck→(ck.den ρ).p w (S j)
theorem xO{c:Nat}{cs pre post:List SV}{k:IntKind}{n:Nat}{a:E}(h:Kg c cs=some (pre,k,n,a,post)):
  SV.ar ρ cs=SV.ar ρ pre++ak k n (a.den ρ)++SV.ar ρ post∧(SV.ar ρ pre).length=c:=by
 unfold Kg at h;split at h
 ·rename_i hle;split at h
  ·rename_i k' n' a' r Ik h1 h2;simp only [agy,ag_]at h;obtain⟨rfl,rfl,rfl,rfl,rfl⟩:=h;have e1:=eK ρ _ _ _ h1;have e2:=iV ρ _ _ _ h2;simp only [SV.ar,SV.cells]at e1;refine⟨?_,?_⟩
   ·rw [e2,ahf,e1,List.take_append_drop]
   ·rw [e2,List.length_take,bw];exact Nat.min_eq_left hle
  ·cases h
 ·cases h
theorem zX{a b:E}(h: ∀c∈eh a b,c.prop ρ):a.den ρ 0≤b.den ρ 0:=by
 unfold eh at h;split at h
 ·rename_i he;subst he;exact Int.le_refl _
 ·have key:(yM a b).den ρ=true:=by
   by_cases hl:yM a b= .lit true
   ·rw [hl];rfl
   ·exact(BE.cq ρ _).2 (h _ (agP.2 ⟨by simp,by simpa using hl⟩))
  rw [iy]at key;exact of_decide_eq_true key
theorem NY(k:IntKind)(n:Nat)(a:E):aI ρ n [⟨.int k,1,a⟩]=ak k n (a.den ρ):=by
 unfold aI aT ak
 induction n with
 | zero=>rfl
 | succ n ih=>
  rw [List.range_succ,List.flatMap_append,List.map_append,ih];simp [cb.cells,ax,ak]
theorem zY{ρ:Env}: ∀{cs:List SV} {o:Nat} {acc a:E},uX o acc cs=some a→
  (∀j,j<o→qx (a.den ρ) j=qx (acc.den ρ) j)∧(SV.ar ρ cs).length=cs.length∧∀j,j<cs.length→(SV.ar ρ cs)[j]? =some (.string ⟨(eI (qx (a.den ρ) (o+j))).toArray⟩)
 | [],o,acc,a,h=>by
  simp only [uX,agy]at h;subst h;exact⟨fun _ _=>rfl,rfl,fun j hj=>absurd hj (Nat.not_lt_zero _)⟩
 | v::r,o,acc,a,h=>by
  have key: ∀s:E,SV.cells ρ v=[.string ⟨(eI (s.den ρ)).toArray⟩]→uX (o+1) (.qJ acc (.lit o) s) r=some a→
    (∀j,j<o→qx (a.den ρ) j=qx (acc.den ρ) j)∧(SV.ar ρ (v::r)).length=(v::r).length∧∀j,j<(v::r).length→(SV.ar ρ (v::r))[j]? =some (.string ⟨(eI (qx (a.den ρ) (o+j))).toArray⟩):=by
   intro s hv h;obtain⟨i1,i2,i3⟩:=zY (ρ:=ρ) h;refine⟨fun j hj=>?_,by simp [SV.ar,hv,i2],fun j hj=>?_⟩
   ·rw [i1 j (by omega),jR,jO,c8,if_neg (by simp;omega)]
   ·simp only [SV.ar,hv,List.singleton_append];cases j with
    | zero=>
     simp only [List.getElem?_cons_zero,Nat.add_zero];rw [i1 o (by omega),jR,jO,c8,if_pos (by simp)]
    | succ j=>
     rw [List.getElem?_cons_succ,i3 j (by simpa using hj)];congr 6;omega
  cases v with
  | str l=>exact key (fZ l) (by simp [SV.cells,mW,oU]) (by simpa [uX] using h)
  | lZ s=>exact key s rfl (by simpa [uX] using h)
  | _=>simp [uX]at h
theorem Eo{ρ:Env}{cs:List SV}{a:E}(h:NZ cs=some a)(j:Nat)(hj:j<cs.length):(SV.ar ρ cs)[j]? =some (.string ⟨(eI (qx (a.den ρ) j)).toArray⟩):=by
 have:=(zY (ρ:=ρ) h).2.2 j hj
 rwa [Nat.zero_add]at this
theorem sZ{hp:List Ck}{ti:TI}(c9:lF P ti){x:SV}{res:iC}(h:zd hp ti.k.agg ti.size x=some res)
  {S:Nat→Nat→Prop} (dp:Reads hp ρ w S res.rd) (cu: ∀b∈res.vcs,b.prop ρ):
  (Instr.loadAt ti.t (x.val ρ)).run P w= .ok (res.val.val ρ) w∧res.ij= .none:=by
 unfold zd at h;split at h
 ·rename_i b c;split at h
  ·rename_i j b' wr cs hf;obtain⟨hj,ew⟩:=c_ hf;simp only [Ck.sN,beq_iff_eq]at ew;subst ew;split at h
   ·rename_i y hy;rw [agz]at h;obtain⟨v,hv,rfl⟩:=h;have hS:=dp j (by simp) _ hj;obtain⟨h1,h2⟩:=e9 ρ hy;refine⟨?_,rfl⟩;refine m6 c9 ⟨ρ.bv.getD b 0,c,none⟩ (SV.ar ρ y) (by rw [h1,List.length_take,List.length_drop];omega) ?_ _ (nO ρ hv);intro i u hu;rw [h1]at hu;refine jk hS c i u ?_;rw [List.getElem?_take]at hu;split at hu
    ·exact hu
    ·cases hu
   ·cases h
  ·cases h
 ·rename_i b i s c;split at h
  ·rename_i j b' wr cs hf;obtain⟨hj,ew⟩:=c_ hf;simp only [Ck.sN,beq_iff_eq]at ew;subst ew;split at h
   ·rename_i hc;obtain⟨rfl,fx,B8⟩:=hc;split at h
    ·rename_i pre k n a post U7;simp only [agy]at h;subst h;have hS:=dp j (by simp) _ hj;obtain⟨e1,e2⟩:=xO (ρ:=ρ) U7;obtain⟨Kh,U8⟩:=dJ ρ cu;simp only [E.den]at U8;refine⟨?_,rfl⟩;refine m6 c9 ⟨ρ.bv.getD b 0,(i.den ρ 0).toNat*1+c,none⟩ [.int k ((gX a i).den ρ 0)] (by simp [fx]) ?_ _ ⟨fun h=>(by rw [B8]at h;cases h),fun _=>rfl⟩;intro m u hu;refine jk hS _ m u ?_;have hm:m=0:=by
      cases m with
      | zero=>rfl
      | succ m=>simp at hu
     subst hm;rw [e1,List.getElem?_drop,ahf,agD (by omega),e2,agC (by rw [aH];omega),bE,
      if_pos (by omega)]
     simp only [List.getElem?_cons_zero,agy]at hu;rw [←hu,eO];congr 3;omega
    ·split at h
     ·rename_i WU;split at h
      ·rename_i a lG;cases h;have hS:=dp j (by simp) _ hj;obtain⟨Kh,U8⟩:=dJ ρ cu;simp only [E.den]at U8;refine⟨?_,rfl⟩;have o8:=Eo (ρ:=ρ) lG (i.den ρ 0).toNat (by omega);refine m6 c9 ⟨ρ.bv.getD b 0,(i.den ρ 0).toNat*1+c,none⟩ [.string ⟨(eI (qx (a.den ρ) (i.den ρ 0).toNat)).toArray⟩] (by simp [fx]) ?_ _ ⟨fun h=>(by rw [B8]at h;cases h),fun _=>by rw [oW,zT]⟩;intro m u hu;refine jk hS _ m u ?_;have hm:m=0:=by
        cases m with
        | zero=>rfl
        | succ m=>simp at hu
       subst hm;rw [WU,Nat.mul_one,Nat.add_zero,List.getElem?_drop,Nat.add_zero,o8];simpa using hu
      ·cases h
     ·cases h
   ·cases h
  ·cases h
 ·rename_i v i s c;split at h
  ·rename_i j md v' t s' n aA hf;obtain⟨hj,ew⟩:=dr hf;simp only [Ck.nP,beq_iff_eq]at ew;subst ew;split at h
   ·rename_i hc;obtain⟨rfl,hs⟩:=hc;split at h
    ·split at h
     ·rename_i cZ k a;split at h
      ·rename_i hca;obtain⟨rfl,B8⟩:=hca;cases h;have hS:=dp j (by simp) _ hj;simp only at cu;have q1:=zX (ρ:=ρ) (fun b hb=>cu b (List.mem_append_left _ hb));have q2:=zX (ρ:=ρ) (fun b hb=>cu b (List.mem_append_right _ hb));rw [bN]at q2;simp only [E.den]at q1 q2;have iX:s=1:=by simpa [cn] using hs
       subst iX;obtain⟨a0,cp,hv⟩:=o0 hS (by omega);refine⟨?_,rfl⟩;simp only [SV.val,eY,hv];refine m6 c9 _ (ak k ti.size ((kQ a i).den ρ)) (aH ..) ?_ _ ⟨fun _=>by simp [SV.ar,SV.cells],fun h=>(by rw [B8]at h;cases h)⟩;intro m u hu;rw [bE]at hu;split at hu
       ·rename_i hm;simp only [agy]at hu;have hu':((aI ρ (n.den ρ 0).toNat [⟨.int k,1,a⟩]).drop ((i.den ρ 0).toNat*1+0))[m]? =some u:=by
         rw [NY,List.getElem?_drop,bE,if_pos (by omega),←hu,eB];congr 3;omega
        obtain⟨a',m',cp',sO,_,o8⟩:=FV hS _ m u hu';rw [hv]at sO;cases sO;exact o8
       ·cases hu
      ·cases h
     ·cases h
    split at h
    ·rename_i es Ep;split at h
     ·rename_i y hy;rw [agz]at h;obtain⟨x,hx,rfl⟩:=h;have hS:=dp j (by simp) _ hj;obtain⟨Kh,U8⟩:=dJ ρ cu;obtain⟨h1,h2⟩:=e9 ρ hy;have h3:=m5 ρ Ep;have cZ:(i.den ρ 0).toNat<(n.den ρ 0).toNat:=by omega
      have U9:=RM ρ aA (n.den ρ 0).toNat (i.den ρ 0).toNat cZ;obtain⟨a,cp,hv⟩:=o0 hS (by omega);refine⟨?_,rfl⟩;simp only [SV.val,eY,hv];refine m6 c9 _ (SV.ar ρ y) (by rw [h1,List.length_take,List.length_drop];omega) ?_ _ (nO ρ hx);intro m u hu;have hu':((aI ρ (n.den ρ 0).toNat aA).drop ((i.den ρ 0).toNat*s+c))[m]? =some u:=by
       rw [h1,h3,←U9,←hs]at hu;rw [List.getElem?_take]at hu;split at hu
       ·rw [List.getElem?_drop,List.getElem?_take]at hu;split at hu
        ·rw [List.getElem?_drop]at hu;rw [List.getElem?_drop,←hu];congr 1;omega
        ·cases hu
       ·cases hu
      obtain⟨a',m',cp',sO,_,o8⟩:=FV hS _ m u hu';rw [hv]at sO;cases sO;exact o8
     ·cases h
    ·cases h
   ·cases h
  ·cases h
 ·cases h
theorem iY(b:Nat): ∀(vs:List Value) (o:Nat) (w:World),(w.setCells b o vs).heap.size=w.heap.size
 | [],_,_=>rfl
 | v::r,o,w=>by rw [World.setCells,iY b r];simp [World.setCell]
theorem iZ(b:Nat): ∀(vs:List Value) (o:Nat) (w:World),gu w (w.setCells b o vs)
 | [],_,w=>gu.refl w
 | v::r,o,w=>by
  rw [World.setCells];exact gu.trans (b:=w.setCell ⟨b,o,none⟩ v) ⟨rfl,rfl,rfl,by simp [World.setCell]⟩ (iZ b r (o+1) _)
theorem g_(b:Nat): ∀(vs:List Value) (o:Nat) (w:World) (k:Nat),k≠b→(w.setCells b o vs).heap[k]? =w.heap[k]?
 | [],_,_,_,_=>rfl
 | v::r,o,w,k,hk=>by
  rw [World.setCells,g_ b r (o+1) _ k hk];simp only [World.setCell,Array.getElem?_modify];rw [if_neg (by omega)]
theorem rV{b:Nat}{cs vs:List Value}{S:Nat→Prop}(h:(ao b true cs).p w S)(c:Nat)(hl:c+vs.length≤cs.length)
  (h1: ∀u∈vs,u.oneCell'=true):
  (storeCells ⟨b,c,none⟩ vs).run P w= .ok () (w.setCells b c vs)∧(ao b true (cs.take c++vs++cs.drop (c+vs.length))).p (w.setCells b c vs) S:=by
 obtain⟨hS,ty,fz,hg,hf⟩:=h;have hfz:=hf rfl;subst hfz;have o8: ∀j,j<vs.length→(w.cell? ⟨b,c+j,none⟩).isSome=true:=fun j hj=>by
  rw [cell_of_row w b (c+j) _ ty (0,0) hg];simp;omega
 have TS: ∀j,j<vs.length→w.frozen? ⟨b,c+j,none⟩=false:=fun j hj=>by
  simp [World.frozen?,hg]
 have r1:=run_storeCells_cells (P:=P) b c vs 0 w (by simpa using o8) (by simpa using TS) h1;have r2:=run_storeCells_at (P:=P) b c ty vs 0 cs.toArray w hg (by simp;omega) h1;simp only [Nat.add_zero]at r1 r2;have e:w.setCells b c vs=w.setRow b (cs.take c++vs++cs.drop (c+vs.length)).toArray:=by
  rw [r1]at r2;injection r2
 exact⟨r1,hS,ty,(0,0),by rw [e];exact setRow_heap w b _ _ ty _ hg,fun _=>rfl⟩
theorem N0{α:Type}(l vs:List α)(c N:Nat)(h:c+vs.length≤N)(hN:N≤l.length):
  (l.take c++vs++l.drop (c+vs.length)).take N=(l.take N).take c++vs++(l.take N).drop (c+vs.length):=by
 rw [List.take_append,List.take_of_length_le (l:=l.take c++vs) (by simp;omega),List.take_take,Nat.min_eq_left (by omega),List.drop_take];congr 2;simp;omega
theorem qR(l vs:List Value)(o c k:Nat)(hc:c+vs.length≤k)(hk:o+k≤l.length):
  ((l.take (o+c)++vs++l.drop (o+c+vs.length)).drop o).take k=((l.drop o).take k).take c++vs++((l.drop o).take k).drop (c+vs.length):=by
 have e1:(l.take (o+c)++vs++l.drop (o+c+vs.length)).drop o=(l.drop o).take c++vs++(l.drop o).drop (c+vs.length):=by
  rw [ahf,List.drop_append_of_le_length (by simp;omega),List.drop_take,Nat.add_sub_cancel_left,ahf,List.drop_drop,Nat.add_assoc]
 rw [e1];exact N0 (l.drop o) vs c k hc (by simp;omega)
theorem e_(g o:Nat)(t:TypeId)(fz:Nat×Nat): ∀(vs:List Value) (i:Nat) (cur:Array Value) (w:World),w.heap[g]? =some (.cells cur t fz)→sW cur.size fz→o+i+vs.length≤cur.size→(∀v∈vs,v.oneCell'=true)→
  (storeCells ⟨g,o,none⟩ vs i).run P w= .ok () (w.setRow g (cur.toList.take (o+i)++vs++cur.toList.drop (o+i+vs.length)).toArray)
 | [],i,cur,w,hg,_,_,_=>by
  simp only [storeCells,agL,List.length_nil,Nat.add_zero,List.take_append_drop,Array.toArray_toList];rw [setRow_self w g cur t fz hg];rfl
 | v::rest,i,cur,w,hg,hz,hl,h1=>by
  have hi:o+i<cur.size:=by simp at hl;omega
  have aal:(⟨g,o,none⟩:Addr).add i=⟨g,o+i,none⟩:=by unfold Addr.add;split<;>simp_all
  have o8:w.cell? ⟨g,o+i,none⟩=some cur[o+i]:=by simp [World.cell?,hg,hi]
  have aam:w.frozen? ⟨g,o+i,none⟩=false:=by
   simp only [World.frozen?,hg];exact hz.off hi
  have lG:(store ((⟨g,o,none⟩:Addr).add i) v).run P w= .ok () (w.setRow g (cur.setIfInBounds (o+i) v)):=by
   rw [aal,run_store P w _ v _ (h1 v (by simp)),o8];simp [aam,setCell_eq_setRow w g (o+i) cur t fz v hg]
  have ih:=e_ g o t fz rest (i+1) (cur.setIfInBounds (o+i) v) (w.setRow g (cur.setIfInBounds (o+i) v)) (setRow_heap w g cur _ t _ hg) (by simpa using hz) (by simp at hl ⊢;omega) (fun x hx=>h1 x (by simp [hx]));simp only [storeCells,agK,lG,agG,ih,setRow_setRow];congr 3;have e:=list_seg_step cur.toList (o+i) v rest (by simp at hl ⊢;omega);simpa [Array.toList_setIfInBounds,Nat.add_assoc] using e
theorem CY{t s n:Nat}{v:Value}{cs vs:List Value}{S:Nat→Prop}(h:(aC true t s v n cs).p w S)(c:Nat)(hl:c+vs.length≤cs.length)
  (eJ:0<vs.length) (h1: ∀u∈vs,u.oneCell'=true):
  ∃g o w',eY v c= .pointer (some ⟨g,o,none⟩)∧S g∧(storeCells ⟨g,o,none⟩ vs).run P w= .ok () w'∧gu w w'∧w'.heap.size=w.heap.size∧
   (∀k,k≠g→w'.heap[k]? =w.heap[k]?)∧(aC true t s v n (cs.take c++vs++cs.drop (c+vs.length))).p w' S:=by
 obtain⟨h0,hS⟩:=h;simp only [if_true]at h0;obtain⟨hlen,hr⟩:=h0;rcases hr with⟨_,rfl⟩ | ⟨g,o,cap,cur,rfl,⟨t',fz,hg,hz⟩,FL,RI,l6,NR⟩
 ·rw [Nat.zero_mul]at hlen;omega
 ·have hns:n*s≤cap*s:=Nat.mul_le_mul_right _ FL;have l6:=l6 (by
   apply Nat.pos_of_ne_zero;rintro rfl;rw [Nat.zero_mul]at hns;omega)
  have aan:o+c+vs.length≤cur.size:=by omega
  have lG:=e_ (P:=P) g (o+c) t' fz vs 0 cur w hg hz (by simpa using aan) h1;simp only [Nat.add_zero]at lG;refine⟨g,o+c,_,by simp [eY,eZ],(hS g).2 ⟨by simp [Value.ownBlock],.inl rfl⟩,lG,⟨rfl,rfl,rfl,by simp⟩,by simp,fun k hk=>setRow_other w g k _ hk,?_,hS⟩;simp only [if_true];refine⟨by simp;omega,.inr ⟨g,o,cap,_,rfl,⟨t',fz,setRow_heap w g cur _ t' _ hg,by refine Eq.mp (congrArg (sW · fz) ?_) hz;simp;omega⟩,FL,RI,?_,?_⟩⟩
  ·simp only [List.size_toArray,List.length_append,List.length_take,List.length_drop,Array.length_toList];intro _;omega
  ·rw [←NR];simp only;exact qR _ vs o c (n*s) (by omega) (by simp;omega)
theorem qS{ti:TI}(h:lF P ti)(a:Addr)(v:Value)(vs:List Value)(hv:v.cells.toList=vs)(hl:vs.length=ti.size){w':World}
  (hr:(storeCells a vs).run P w= .ok () w'):(Instr.storeAt ti.t (.pointer (some a)) v).run P w= .ok () w':=by
 have fx:v.cells.size=ti.size:=by rw [←hl,←hv];simp
 simp [Instr.storeAt,Instr.sureAddr,storeVar,h.sizeOf w,fx,hv,hr]
structure Ki (P:Program) (w:World) (ρ:Env) (hp:List Ck) (S:Nat→Nat→Prop) (j:Nat) (ck:Ck) (w':World):Prop where
 old: ∃RP,hp[j]? =some RP∧(RP.den ρ).wr=true
 wr:j=j
 same:gu w w'
 size:w'.heap.size=w.heap.size
 keep: ∀k,¬S j k→w'.heap[k]? =w.heap[k]?
 now:(ck.den ρ).p w' (S j)
theorem zZ{hp:List Ck}{ti:TI}(c9:lF P ti){v x:SV}{res:iC}(h:z4 hp ti.size v x=some res)(mY:ρ.Ok)
  {S:Nat→Nat→Prop} (dp:Reads hp ρ w S res.rd) (cu: ∀b∈res.vcs,b.prop ρ):
  res.val= .undef∧∃j ck,res.ij= .set j ck∧∃w',(Instr.storeAt ti.t (x.val ρ) (v.val ρ)).run P w= .ok () w'∧Ki P w ρ hp S j ck w':=by
 unfold z4 at h;split at h
 ·rename_i b c;split at h
  ·rename_i j b' cs vs hf Kj;obtain⟨hj,ew⟩:=c_ hf;simp only [Ck.sN,beq_iff_eq]at ew;subst ew;obtain⟨e1,e2⟩:=iW ρ Kj mY;split at h
   ·rename_i hlen;rw [agz]at h;obtain⟨wG,aao,rfl⟩:=h;refine⟨rfl,j,_,rfl,?_⟩;have hS:=dp j (by simp) _ hj;obtain⟨h1,h2⟩:=pI ρ aao;obtain⟨h3,h4⟩:=rV (P:=P) hS c h2 e2;refine⟨_,qS c9 _ _ _ e1 (by rw [bw];exact hlen) h3,⟨⟨_,hj,rfl⟩,rfl,iZ _ _ _ _,iY _ _ _ _,?_,?_⟩⟩
    ·intro k hk;exact g_ _ _ _ _ _ (fun e=>hk ((hS.1 k).2 e))
    ·simp only [Ck.den,h1];exact h4
   ·cases h
  ·cases h
 ·rename_i b i s c;split at h
  ·rename_i j b' cs k e hf Kj;obtain⟨hj,ew⟩:=c_ hf;simp only [Ck.sN,beq_iff_eq]at ew;subst ew;obtain⟨e1,e2⟩:=iW ρ Kj mY;split at h
   ·rename_i hc;obtain⟨rfl,fx⟩:=hc;split at h
    ·rename_i pre k' n a post U7;split at h
     ·rename_i hk;subst hk;simp only [agy]at h;subst h;refine⟨rfl,j,_,rfl,?_⟩;have hS:=dp j (by simp) _ hj;obtain⟨h1,h2⟩:=xO (ρ:=ρ) U7;obtain⟨Kh,U8⟩:=dJ ρ cu;simp only [E.den]at U8;have cZ:(i.den ρ 0).toNat<n:=by omega
      have Xn:(SV.ar ρ [SV.int k e])=[.int k (e.den ρ 0)]:=rfl;rw [Xn]at e1 e2;have eL:c+(i.den ρ 0).toNat+1≤(SV.ar ρ cs).length:=by rw [h1];simp [aH];omega
      obtain⟨h3,h4⟩:=rV (P:=P) (vs:=[.int k (e.den ρ 0)]) hS (c+(i.den ρ 0).toNat) (by simpa using eL) e2;refine⟨_,by rw [show SV.val ρ (.qy b i 1 c)= .pointer (some ⟨ρ.bv.getD b 0,c+(i.den ρ 0).toNat,none⟩) by simp [SV.val,Nat.add_comm]];exact qS c9 _ _ _ e1 (by simpa using fx.symm) h3,
       ⟨⟨_,hj,rfl⟩,rfl,iZ _ _ _ _,iY _ _ _ _,?_,?_⟩⟩
      ·intro k' jK;exact g_ _ _ _ _ _ (fun e=>jK ((hS.1 k').2 e))
      ·simp only [Ck.den];have:SV.ar ρ (pre++ .a_ k n (.bP a i e)::post)=(SV.ar ρ cs).take (c+(i.den ρ 0).toNat)++[.int k (e.den ρ 0)]++(SV.ar ρ cs).drop (c+(i.den ρ 0).toNat+1):=by
        rw [iU,h1];simp only [SV.ar,SV.cells];have hlp:(SV.ar ρ pre).length=c:=h2;generalize SV.ar ρ pre=A at hlp ⊢;generalize SV.ar ρ post=B;rw [ahf A,List.take_append,List.take_of_length_le (l:=A) (by omega),hlp,show c+(i.den ρ 0).toNat - c=(i.den ρ 0).toNat by omega,
         List.drop_append,List.drop_of_length_le (l:=A) (by omega),hlp,show c+(i.den ρ 0).toNat+1 - c=(i.den ρ 0).toNat+1 by omega,
         List.take_append_of_le_length (by rw [aH];omega),List.drop_append_of_le_length (by rw [aH];omega),List.nil_append]
        simp only [ahf];congr 1;apply List.ext_getElem?;intro m;by_cases hm:m<n
        ·rw [agC (by rw [aH];exact hm),bE,if_pos hm];simp only [E.den];rcases Nat.lt_trichotomy m (i.den ρ 0).toNat with aaq | heq | hgt
         ·rw [if_neg (by omega),agC (by simp [aH];omega),List.getElem?_take_of_lt aaq,bE,if_pos hm]
         ·subst heq;rw [if_pos rfl,agD (by simp [aH];omega)];simp [aH,Nat.min_eq_left (Nat.le_of_lt hm)]
         ·rw [if_neg (by omega),agD (by simp [aH];omega)];simp only [List.length_take,aH,Nat.min_eq_left (Nat.le_of_lt cZ)];obtain⟨d,rfl⟩: ∃d,m=(i.den ρ 0).toNat+1+d:=⟨m - (i.den ρ 0).toNat - 1,by omega⟩;rw [show(i.den ρ 0).toNat+1+d - (i.den ρ 0).toNat=d+1 by omega,List.singleton_append,List.getElem?_cons_succ,agC (by simp [aH];omega),
           List.getElem?_drop,bE,if_pos (by omega)]
        ·rw [agD (by rw [aH];omega),aH,agD (by simp [aH];omega)];simp only [List.length_take,aH,Nat.min_eq_left (Nat.le_of_lt cZ)];obtain⟨d,rfl⟩: ∃d,m=n+d:=⟨m - n,by omega⟩;rw [show n+d - (i.den ρ 0).toNat=(n - (i.den ρ 0).toNat - 1)+d+1 by omega,List.singleton_append,List.getElem?_cons_succ,
          agD (by simp [aH];omega)]
         congr 1;simp [aH];omega
       rw [this];exact h4
     ·cases h
    ·cases h
   ·cases h
  ·cases h
 ·rename_i xv i s c;split at h
  ·rename_i j v' t s' n aA vs hf Kj;obtain⟨hj,ew⟩:=dr hf;simp only [Ck.nP,beq_iff_eq]at ew;subst ew;obtain⟨e1,e2⟩:=iW ρ Kj mY;split at h
   ·rename_i hc;obtain⟨rfl,hs,yN,hlen⟩:=hc;rw [agz]at h;obtain⟨aV,eU,rfl⟩:=h;refine⟨rfl,j,_,rfl,?_⟩;have hS:=dp j (by simp) _ hj;obtain⟨Kh,U8⟩:=dJ ρ cu;have cZ:(i.den ρ 0).toNat<(n.den ρ 0).toNat:=by omega
    obtain⟨p1,p2,p3,p4⟩:=sY ρ eU;have qT:=RO s (fun(i:Nat)=>rowAt ρ aA i) (fun(i:Nat)=>rowAt ρ aV i) (fun i=>by rw [dH];exact hs.symm) (fun i=>by rw [dH,p1];exact hs.symm)
     (n.den ρ 0).toNat (i.den ρ 0).toNat c (SV.ar ρ vs) cZ (by rw [hs];exact p2) p3 p4
    have Xn:(SV.ar ρ vs).length=ti.size:=by rw [bw];exact hlen
    have hbound:(i.den ρ 0).toNat*s+c+(SV.ar ρ vs).length≤(aI ρ (n.den ρ 0).toNat aA).length:=by
     rw [dI,←hs];have:=Nat.mul_le_mul_right s (Nat.succ_le_of_lt cZ);rw [Nat.succ_mul]at this;omega
    obtain⟨g,o,w',g1,g2,g3,g4,g5,g6,g7⟩:=CY (P:=P) hS _ hbound (by omega) e2;refine⟨w',?_,⟨⟨_,hj,rfl⟩,rfl,g4,g5,?_,?_⟩⟩
    ·rw [show SV.val ρ (.pv xv i s c)=eY (ρ.vv.getD xv V1.nil).v ((i.den ρ 0).toNat*s+c)from rfl,g1];exact qS c9 _ _ _ e1 Xn g3
    ·intro k hk;exact g6 k (fun e=>hk (e▸g2))
    ·simp only [Ck.den];rw [show aI ρ (n.den ρ 0).toNat aV=(ag5 (n.den ρ 0).toNat).flatMap fun i=>rowAt ρ aV i from rfl,qT];exact g7
   ·cases h
  ·cases h
 ·cases h
end
def fT:List Value→List gR→Prop
 | [],[]=>True
 | .int q _::r,some q'::l=>q=q'∧fT r l
 | .bool _::r,none::l=>fT r l
 | _,_=>False
def tX:List Value→List Value→Bool
 | [],[]=>true
 | .int _ a::r,.int _ b::s=>a==b&&tX r s
 | .bool a::r,.bool b::s=>a==b&&tX r s
 | _,_=>false
theorem fb: ∀{xs:List Value} {l:List gR},fT xs l→xs.length=l.length
 | [],[],_=>rfl
 | x::r,[],h=>by cases x<;>simp [fT]at h
 | [],k::l,h=>by simp [fT]at h
 | x::r,k::l,h=>by
  have:fT r l:=by cases x<;>cases k<;>simp_all [fT]
  simp [fb this]
theorem fc: ∀{l1:List gR} {xs:List Value} {l2:List gR},fT xs (l1++l2)→fT (xs.take l1.length) l1∧fT (xs.drop l1.length) l2
 | [],xs,l2,h=>by simpa [fT] using h
 | k::l1,[],l2,h=>by simp [fT]at h
 | k::l1,x::r,l2,h=>by
  simp only [List.cons_append,List.length_cons,List.take_succ_cons,List.drop_succ_cons]at h ⊢;cases x<;>cases k<;>simp only [fT]at h ⊢
  ·exact fc h
  ·exact⟨⟨h.1,(fc h.2).1⟩,(fc h.2).2⟩
theorem pN: ∀{l:List gR} {a c b d:List Value},fT a l→fT c l→tX (a++b) (c++d)=(tX a c&&tX b d)
 | [],a,c,b,d,ha,hc=>by
  have h1:=fb ha;have h2:=fb hc;have:a=[]:=agU h1;have:c=[]:=agU h2
  subst_vars
  simp [tX]
 | k::l,[],c,b,d,ha,hc=>by simp [fT]at ha
 | k::l,x::a,[],b,d,ha,hc=>by simp [fT]at hc
 | k::l,x::a,y::c,b,d,ha,hc=>by
  cases x<;>cases k<;>simp only [fT]at ha<;>cases y<;>simp only [fT]at hc
  ·simp only [List.cons_append,tX,pN ha hc,Bool.and_assoc]
  ·simp only [List.cons_append,tX,pN ha.2 hc.2,Bool.and_assoc]
def Fx(P:Program)(t:TypeId)(cs:List Value)(x:Value):Prop:=
 match P.underlying t with
 | some (.struct _)=>x= .agg cs.toArray
 | some (.array _ _)=>x= .agg cs.toArray
 | _=>cs=[x]
section
variable {P:Program}
theorem iD(w:World){d:Nat}{t:TypeId}{l:List gR}(hl:fD P d t=some l)(hs:P.cellsOf t=l.length)(cs:List Value)(off:Nat)
  (hf:fT ((cs.drop off).take l.length) l): ∃x,(part t cs.toArray off).run P w= .ok x w∧Fx P t ((cs.drop off).take l.length) x:=by
 have FY: ∃i,P.info? t=some i∧i.size=l.length:=by
  cases d with
  | zero=>simp [fD]at hl
  | succ d=>
   cases hi:P.info? t with
   | none=>simp [fD,Program.underlying,hi]at hl
   | some i=>exact⟨i,rfl,by simpa [Program.cellsOf,hi] using hs⟩
 obtain⟨i,hi,fx⟩:=FY;have hso:(sizeOf t).run P w= .ok l.length w:=by simp [sizeOf,typeInfo,hi,fx]
 cases d with
 | zero=>simp [fD]at hl
 | succ d=>
  unfold fD at hl;cases hu:P.underlying t with
  | none=>simp [hu]at hl
  | some td=>
   have xP:=run_underlying hu w;rw [hu]at hl;cases td with
   | int k=>
    simp only [agy]at hl;subst hl;have hlen:=fb hf;simp only [List.length_cons,List.length_nil]at hlen hf;cases hc:cs[off]? with
    | none=>
     rw [List.getElem?_eq_none_iff]at hc;rw [List.drop_of_length_le hc]at hlen;simp at hlen
    | some x=>
     refine⟨x,by simp [part,isAgg,xP,hc],?_⟩;simp only [Fx,hu];have:off<cs.length:=(agx.1 hc).1;rw [List.drop_eq_getElem_cons this];simp [(agx.1 hc).2]
   | bool=>
    simp only [agy]at hl;subst hl;have hlen:=fb hf;simp only [List.length_cons,List.length_nil]at hlen hf;cases hc:cs[off]? with
    | none=>
     rw [List.getElem?_eq_none_iff]at hc;rw [List.drop_of_length_le hc]at hlen;simp at hlen
    | some x=>
     refine⟨x,by simp [part,isAgg,xP,hc],?_⟩;simp only [Fx,hu];have:off<cs.length:=(agx.1 hc).1;rw [List.drop_eq_getElem_cons this];simp [(agx.1 hc).2]
   | array n e=>
    refine⟨_,by simp [part,isAgg,xP,hso];rfl,?_⟩;simp only [Fx,hu]
   | struct fs=>
    refine⟨_,by simp [part,isAgg,xP,hso];rfl,?_⟩;simp only [Fx,hu]
   | _=>simp at hl
def EqL(P:Program)(dd:Nat)(t:TypeId)(l:List gR):Prop:=
 ∀(w:World) (xs ys:List Value) (x y:Value),fT xs l→fT ys l→Fx P t xs x→Fx P t ys y→(ag1 dd t x y).run P w= .ok (tX xs ys) w
theorem qo(w:World)(dd:Nat){d:Nat}{e:TypeId}{l:List gR}(hl:fD P d e=some l)(hs:P.cellsOf e=l.length)(IH:EqL P dd e l)(xs ys:List Value):
  ∀(m k:Nat),fT (xs.drop (k*l.length)) (List.replicate m l).flatten→fT (ys.drop (k*l.length)) (List.replicate m l).flatten→
   (Op.eqItems dd e (P.cellsOf e) xs.toArray ys.toArray (List.range' k m)).run P w= .ok (tX (xs.drop (k*l.length)) (ys.drop (k*l.length))) w
 | 0,k,hx,hy=>by
  have h1:xs.drop (k*l.length)=[]:=agU (by simpa using fb hx);have h2:ys.drop (k*l.length)=[]:=agU (by simpa using fb hy);rw [h1,h2];simp [Op.eqItems,tX]
 | m+1,k,hx,hy=>by
  rw [List.replicate_succ,List.flatten_cons]at hx hy;obtain⟨Il,Xo⟩:=fc hx;obtain⟨HX,TU⟩:=fc hy;rw [List.drop_drop]at Xo TU;obtain⟨a,pa,va⟩:=iD w hl hs xs (k*l.length) Il;obtain⟨b,pb,vb⟩:=iD w hl hs ys (k*l.length) HX;have hab:=IH w _ _ a b Il HX va vb;have ih:=qo w dd hl hs IH xs ys m (k+1) (by rw [Nat.add_mul,Nat.one_mul];exact Xo) (by rw [Nat.add_mul,Nat.one_mul];exact TU);rw [Nat.add_mul,Nat.one_mul]at ih;have Im:tX (xs.drop (k*l.length)) (ys.drop (k*l.length))=
    (tX ((xs.drop (k*l.length)).take l.length) ((ys.drop (k*l.length)).take l.length)&&tX (xs.drop (k*l.length+l.length)) (ys.drop (k*l.length+l.length))):=by
   rw [←pN Il HX,←List.drop_drop,←List.drop_drop,List.take_append_drop,List.take_append_drop]
  rw [List.range'_succ];simp only [Op.eqItems,agK,hs,pa,pb,hab,agG];rw [hs]at ih;rw [Im];cases tX ((xs.drop (k*l.length)).take l.length) ((ys.drop (k*l.length)).take l.length)
  ·simp
  ·simpa using ih
theorem o9(w:World)(dd:Nat)(f:TypeId→Option (List gR))(d:Nat)(TV: ∀t,f t=fD P d t)(IH: ∀t l,fD P d t=some l→EqL P dd t l)(xs ys:List Value):
  ∀(fs:List Field) (off:Nat) (L:List gR),kS P f fs off=some L→fT (xs.drop off) L→fT (ys.drop off) L→
   (Op.eqFields dd xs.toArray ys.toArray fs).run P w= .ok (tX (xs.drop off) (ys.drop off)) w
 | [],off,L,h,hx,hy=>by
  simp only [kS,agy]at h;subst h;have h1:xs.drop off=[]:=agU (by simpa using fb hx);have h2:ys.drop off=[]:=agU (by simpa using fb hy);rw [h1,h2];simp [Op.eqFields,tX]
 | fd::fs,off,L,h,hx,hy=>by
  unfold kS at h;split at h
  ·cases h
  ·rename_i hn;simp only [Bool.or_eq_true,beq_iff_eq,bne_iff_ne,ne_eq,not_or,agN]at hn;obtain⟨hn,rfl⟩:=hn;split at h
   ·rename_i l hl;split at h
    ·rename_i hs;rw [agz]at h;obtain⟨L',U_,rfl⟩:=h;rw [TV]at hl;have ey:P.cellsOf fd.type=l.length:=by simpa using hs
     obtain⟨Il,Xo⟩:=fc hx;obtain⟨HX,TU⟩:=fc hy;rw [List.drop_drop]at Xo TU;obtain⟨a,pa,va⟩:=iD w hl ey xs fd.offset Il;obtain⟨b,pb,vb⟩:=iD w hl ey ys fd.offset HX;have hab:=IH _ _ hl w _ _ a b Il HX va vb;have ih:=o9 w dd f d TV IH xs ys fs (fd.offset+l.length) L' U_ Xo TU;have Im:tX (xs.drop fd.offset) (ys.drop fd.offset)=
       (tX ((xs.drop fd.offset).take l.length) ((ys.drop fd.offset).take l.length)&&tX (xs.drop (fd.offset+l.length)) (ys.drop (fd.offset+l.length))):=by
      rw [←pN Il HX,←List.drop_drop,←List.drop_drop,List.take_append_drop,List.take_append_drop]
     simp only [Op.eqFields,hn,ne_eq,not_false_eq_true,if_true,agK,pa,pb,hab,agG];rw [Im];cases tX ((xs.drop fd.offset).take l.length) ((ys.drop fd.offset).take l.length)
     ·simp
     ·simpa using ih
    ·cases h
   ·cases h
theorem nQ(k:Nat): ∀(d:Nat) (t:TypeId) (L:List gR),fD P d t=some L→EqL P (k+d) t L
 | 0,t,L,h=>by simp [fD]at h
 | d+1,t,L,h=>by
  intro w xs ys x y hx hy vx vy;unfold fD at h;cases hu:P.underlying t with
  | none=>simp [hu]at h
  | some td=>
   rw [hu]at h;simp only [Fx,hu]at vx vy;cases td with
   | int q=>
    simp only [agy]at h;subst h vx vy;cases x<;>simp only [fT]at hx
    cases y<;>simp only [fT]at hy
    obtain⟨rfl,_⟩:=hx;obtain⟨rfl,_⟩:=hy;rw [show k+(d+1)=(k+d)+1 from rfl,run_equalIn_int w _ t _ _ _ _ hu];simp [tX]
   | bool=>
    simp only [agy]at h;subst h vx vy;cases x<;>simp only [fT]at hx
    cases y<;>simp only [fT]at hy
    rw [show k+(d+1)=(k+d)+1 from rfl,run_equalIn_bool' w _ t _ _ hu];simp [tX]
   | array n e=>
    simp only at h vx vy;subst vx vy;split at h
    ·rename_i l hl;split at h
     ·rename_i hs;simp only [agy]at h;subst h;have ey:P.cellsOf e=l.length:=by simpa using hs
      have FY: ∃i,P.info? e=some i:=by
       cases d with
       | zero=>simp [fD]at hl
       | succ d=>
        cases hi:P.info? e with
        | none=>simp [fD,Program.underlying,hi]at hl
        | some i=>exact⟨i,rfl⟩
      obtain⟨i,hi⟩:=FY;rw [show k+(d+1)=(k+d)+1 from rfl,run_equalIn_array w (k+d) _ _ hu hi,List.range_eq_range'];have:=qo w (k+d) hl ey (nQ k d e l hl) xs ys n 0 (by simpa using hx) (by simpa using hy);simpa using this
     ·cases h
    ·cases h
   | struct fs=>
    simp only at h vx vy;subst vx vy;split at h
    ·cases h
    ·rename_i lG;have hfs:P.fieldsOf t=fs:=by simp [Program.fieldsOf,hu]
     rw [show k+(d+1)=(k+d)+1 from rfl,run_equalIn_struct w (k+d) t _ _ (by rw [hfs];exact hu) (by simpa using lG),hfs];have:=o9 w (k+d) (fD P d) d (fun _=>rfl) (nQ k d) xs ys fs.toList 0 L h (by simpa using hx) (by simpa using hy);simpa using this
   | _=>simp at h
end
end Go.RX
