/- Executor. -/
import Derived.Test.YtmgbbbmdbpbeeaaM04
open Go.Op renaming equalIn → ad4
open Go.Result renaming andThen_ok → adC
open Go.Sem renaming run_bind → adL
open List renaming eq_nil_of_length_eq_zero → adR, getElem?_append_left → adz, getElem?_append_right → adA, getElem?_eq_some_iff → adu, mem_filter → adU
open Option renaming map_eq_some_iff → adw
open Option.some renaming injEq → adv
open Prod.mk renaming injEq → ad9
namespace Go.RX
section
variable {P:Program} {w:World} {ρ:Env}
def Reads(hp:List Ck)(ρ:Env)(w:World)(S:Nat→Nat→Prop)(rd:List Nat):Prop:=
 ∀j∈rd,∀ck,hp[j]? =some ck→(ck.den ρ).p w (S j)
theorem uN{c:Nat}{cs pre post:List SV}{k:IntKind}{n:Nat}{a:E}(h:HQ c cs=some (pre,k,n,a,post)):
  SV.aB ρ cs=SV.aB ρ pre++aj k n (a.den ρ)++SV.aB ρ post∧(SV.aB ρ pre).length=c:=by
 unfold HQ at h;split at h
 ·rename_i hle;split at h
  ·rename_i k' n' a' r RY h1 h2;simp only [adv,ad9]at h;obtain⟨rfl,rfl,rfl,rfl,rfl⟩:=h;have e1:=dJ ρ _ _ _ h1;have e2:=gV ρ _ _ _ h2;simp only [SV.aB,SV.cells]at e1;refine⟨?_,?_⟩
   ·rw [e2,List.append_assoc,e1,List.take_append_drop]
   ·rw [e2,List.length_take,bz];exact Nat.min_eq_left hle
  ·cases h
 ·cases h
theorem xB{a b:E}(h: ∀c∈dA a b,c.prop ρ):a.den ρ 0≤b.den ρ 0:=by
 unfold dA at h;split at h
 ·rename_i he;subst he;exact Int.le_refl _
 ·have key:(wo a b).den ρ=true:=by
   by_cases hl:wo a b= .lit true
   ·rw [hl];rfl
   ·exact(BE.bX ρ _).2 (h _ (adU.2 ⟨by simp,by simpa using hl⟩))
  rw [gp]at key;exact of_decide_eq_true key
theorem Ly(k:IntKind)(n:Nat)(a:E):aN ρ n [⟨.int k,1,a⟩]=aj k n (a.den ρ):=by
 unfold aN aK aj
 induction n with
 | zero=>rfl
 | succ n ih=>
  rw [List.range_succ,List.flatMap_append,List.map_append,ih];simp [bS.cells,aJ,aj]
theorem xC{ρ:Env}: ∀{cs:List SV} {o:Nat} {acc a:E},rY o acc cs=some a→
  (∀j,j<o→oA (a.den ρ) j=oA (acc.den ρ) j)∧(SV.aB ρ cs).length=cs.length∧∀j,j<cs.length→(SV.aB ρ cs)[j]? =some (.string ⟨(bZ (oA (a.den ρ) (o+j))).toArray⟩)
 | [],o,acc,a,h=>by
  simp only [rY,adv]at h;subst h;exact⟨fun _ _=>rfl,rfl,fun j hj=>absurd hj (Nat.not_lt_zero _)⟩
 | v::r,o,acc,a,h=>by
  have key: ∀s:E,SV.cells ρ v=[.string ⟨(bZ (s.den ρ)).toArray⟩]→rY (o+1) (.oR acc (.lit o) s) r=some a→
    (∀j,j<o→oA (a.den ρ) j=oA (acc.den ρ) j)∧(SV.aB ρ (v::r)).length=(v::r).length∧∀j,j<(v::r).length→(SV.aB ρ (v::r))[j]? =some (.string ⟨(bZ (oA (a.den ρ) (o+j))).toArray⟩):=by
   intro s hv h;obtain⟨i1,i2,i3⟩:=xC (ρ:=ρ) h;refine⟨fun j hj=>?_,by simp [SV.aB,hv,i2],fun j hj=>?_⟩
   ·rw [i1 j (by omega),iN,iJ,cE,if_neg (by simp;omega)]
   ·simp only [SV.aB,hv,List.singleton_append];cases j with
    | zero=>
     simp only [List.getElem?_cons_zero,Nat.add_zero];rw [i1 o (by omega),iN,iJ,cE,if_pos (by simp)]
    | succ j=>
     rw [List.getElem?_cons_succ,i3 j (by simpa using hj)];congr 6;omega
  cases v with
  | str l=>exact key (zl l) (by simp [SV.cells,kU,mK]) (by simpa [rY] using h)
  | kb s=>exact key s rfl (by simpa [rY] using h)
  | _=>simp [rY]at h
theorem BJ{ρ:Env}{cs:List SV}{a:E}(h:Lz cs=some a)(j:Nat)(hj:j<cs.length):(SV.aB ρ cs)[j]? =some (.string ⟨(bZ (oA (a.den ρ) j)).toArray⟩):=by
 have:=(xC (ρ:=ρ) h).2.2 j hj
 rwa [Nat.zero_add]at this
theorem qD{hp:List Ck}{ti:TI}(cF:jS P ti){x:SV}{res:gx}(h:wu hp ti.k.agg ti.size x=some res)
  {S:Nat→Nat→Prop} (cJ:Reads hp ρ w S res.rd) (bV: ∀b∈res.vcs,b.prop ρ):
  (Instr.loadAt ti.t (x.val ρ)).run P w= .ok (res.val.val ρ) w∧res.gg= .none:=by
 unfold wu at h;split at h
 ·rename_i b c;split at h
  ·rename_i j b' wr cs hf;obtain⟨hj,dD⟩:=cH hf;simp only [Ck.qs,beq_iff_eq]at dD;subst dD;split at h
   ·rename_i y hy;rw [adw]at h;obtain⟨v,hv,rfl⟩:=h;have hS:=cJ j (by simp) _ hj;obtain⟨h1,h2⟩:=dY ρ hy;refine⟨?_,rfl⟩;refine kY cF ⟨ρ.bv.getD b 0,c,none⟩ (SV.aB ρ y) (by rw [h1,List.length_take,List.length_drop];omega) ?_ _ (lH ρ hv);intro i u hu;rw [h1]at hu;refine hU hS c i u ?_;rw [List.getElem?_take]at hu;split at hu
    ·exact hu
    ·cases hu
   ·cases h
  ·cases h
 ·rename_i b i s c;split at h
  ·rename_i j b' wr cs hf;obtain⟨hj,dD⟩:=cH hf;simp only [Ck.qs,beq_iff_eq]at dD;subst dD;split at h
   ·rename_i hc;obtain⟨rfl,eL,zw⟩:=hc;split at h
    ·rename_i pre k n a post RZ;simp only [adv]at h;subst h;have hS:=cJ j (by simp) _ hj;obtain⟨e1,e2⟩:=uN (ρ:=ρ) RZ;obtain⟨KQ,R0⟩:=c7 ρ bV;simp only [E.den]at R0;refine⟨?_,rfl⟩;refine kY cF ⟨ρ.bv.getD b 0,(i.den ρ 0).toNat*1+c,none⟩ [.int k ((fP a i).den ρ 0)] (by simp [eL]) ?_ _ ⟨fun h=>(by rw [zw]at h;cases h),fun _=>rfl⟩;intro m u hu;refine hU hS _ m u ?_;have hm:m=0:=by
      cases m with
      | zero=>rfl
      | succ m=>simp at hu
     subst hm;rw [e1,List.getElem?_drop,List.append_assoc,adA (by omega),e2,adz (by rw [aF];omega),bd,
      if_pos (by omega)]
     simp only [List.getElem?_cons_zero,adv]at hu;rw [←hu,dL];congr 3;omega
    ·split at h
     ·rename_i Zc;split at h
      ·rename_i a zi;cases h;have hS:=cJ j (by simp) _ hj;obtain⟨KQ,R0⟩:=c7 ρ bV;simp only [E.den]at R0;refine⟨?_,rfl⟩;have kZ:=BJ (ρ:=ρ) zi (i.den ρ 0).toNat (by omega);refine kY cF ⟨ρ.bv.getD b 0,(i.den ρ 0).toNat*1+c,none⟩ [.string ⟨(bZ (oA (a.den ρ) (i.den ρ 0).toNat)).toArray⟩] (by simp [eL]) ?_ _ ⟨fun h=>(by rw [zw]at h;cases h),fun _=>by rw [mN,xr]⟩;intro m u hu;refine hU hS _ m u ?_;have hm:m=0:=by
        cases m with
        | zero=>rfl
        | succ m=>simp at hu
       subst hm;rw [Zc,Nat.mul_one,Nat.add_zero,List.getElem?_drop,Nat.add_zero,kZ];simpa using hu
      ·cases h
     ·cases h
   ·cases h
  ·cases h
 ·rename_i v i s c;split at h
  ·rename_i j md v' t s' n aH hf;obtain⟨hj,dD⟩:=cK hf;simp only [Ck.lI,beq_iff_eq]at dD;subst dD;split at h
   ·rename_i hc;obtain⟨rfl,hs⟩:=hc;split at h
    ·split at h
     ·rename_i bP k a;split at h
      ·rename_i WW;obtain⟨rfl,zw⟩:=WW;cases h;have hS:=cJ j (by simp) _ hj;simp only at bV;have q1:=xB (ρ:=ρ) (fun b hb=>bV b (List.mem_append_left _ hb));have q2:=xB (ρ:=ρ) (fun b hb=>bV b (List.mem_append_right _ hb));rw [bH]at q2;simp only [E.den]at q1 q2;have jT:s=1:=by simpa [bT] using hs
       subst jT;obtain⟨a0,cp,hv⟩:=mS hS (by omega);refine⟨?_,rfl⟩;simp only [SV.val,dU,hv];refine kY cF _ (aj k ti.size ((jt a i).den ρ)) (aF ..) ?_ _ ⟨fun _=>by simp [SV.aB,SV.cells],fun h=>(by rw [zw]at h;cases h)⟩;intro m u hu;rw [bd]at hu;split at hu
       ·rename_i hm;simp only [adv]at hu;have WX:((aN ρ (n.den ρ 0).toNat [⟨.int k,1,a⟩]).drop ((i.den ρ 0).toNat*1+0))[m]? =some u:=by
         rw [Ly,List.getElem?_drop,bd,if_pos (by omega),←hu,dC];congr 3;omega
        obtain⟨a',m',Zf,qt,_,kZ⟩:=DV hS _ m u WX;rw [hv]at qt;cases qt;exact kZ
       ·cases hu
      ·cases h
     ·cases h
    split at h
    ·rename_i es BK;split at h
     ·rename_i y hy;rw [adw]at h;obtain⟨x,hx,rfl⟩:=h;have hS:=cJ j (by simp) _ hj;obtain⟨KQ,R0⟩:=c7 ρ bV;obtain⟨h1,h2⟩:=dY ρ hy;have h3:=kX ρ BK;have bP:(i.den ρ 0).toNat<(n.den ρ 0).toNat:=by omega
      have R1:=OV ρ aH (n.den ρ 0).toNat (i.den ρ 0).toNat bP;obtain⟨a,cp,hv⟩:=mS hS (by omega);refine⟨?_,rfl⟩;simp only [SV.val,dU,hv];refine kY cF _ (SV.aB ρ y) (by rw [h1,List.length_take,List.length_drop];omega) ?_ _ (lH ρ hx);intro m u hu;have WX:((aN ρ (n.den ρ 0).toNat aH).drop ((i.den ρ 0).toNat*s+c))[m]? =some u:=by
       rw [h1,h3,←R1,←hs]at hu;rw [List.getElem?_take]at hu;split at hu
       ·rw [List.getElem?_drop,List.getElem?_take]at hu;split at hu
        ·rw [List.getElem?_drop]at hu;rw [List.getElem?_drop,←hu];congr 1;omega
        ·cases hu
       ·cases hu
      obtain⟨a',m',Zf,qt,_,kZ⟩:=DV hS _ m u WX;rw [hv]at qt;cases qt;exact kZ
     ·cases h
    ·cases h
   ·cases h
  ·cases h
 ·cases h
theorem gY(b:Nat): ∀(vs:List Value) (o:Nat) (w:World),(w.setCells b o vs).heap.size=w.heap.size
 | [],_,_=>rfl
 | v::r,o,w=>by rw [World.setCells,gY b r];simp [World.setCell]
theorem gZ(b:Nat): ∀(vs:List Value) (o:Nat) (w:World),fE w (w.setCells b o vs)
 | [],_,w=>fE.refl w
 | v::r,o,w=>by
  rw [World.setCells];exact fE.trans (b:=w.setCell ⟨b,o,none⟩ v) ⟨rfl,rfl,rfl,by simp [World.setCell]⟩ (gZ b r (o+1) _)
theorem fT(b:Nat): ∀(vs:List Value) (o:Nat) (w:World) (k:Nat),k≠b→(w.setCells b o vs).heap[k]? =w.heap[k]?
 | [],_,_,_,_=>rfl
 | v::r,o,w,k,hk=>by
  rw [World.setCells,fT b r (o+1) _ k hk];simp only [World.setCell,Array.getElem?_modify];rw [if_neg (by omega)]
theorem pU{b:Nat}{cs vs:List Value}{S:Nat→Prop}(h:(aq b true cs).p w S)(c:Nat)(hl:c+vs.length≤cs.length)
  (h1: ∀u∈vs,u.oneCell'=true):
  (storeCells ⟨b,c,none⟩ vs).run P w= .ok () (w.setCells b c vs)∧(aq b true (cs.take c++vs++cs.drop (c+vs.length))).p (w.setCells b c vs) S:=by
 obtain⟨hS,ty,fz,hg,hf⟩:=h;have Y8:=hf rfl;subst Y8;have kZ: ∀j,j<vs.length→(w.cell? ⟨b,c+j,none⟩).isSome=true:=fun j hj=>by
  rw [cell_of_row w b (c+j) _ ty (0,0) hg];simp;omega
 have QV: ∀j,j<vs.length→w.frozen? ⟨b,c+j,none⟩=false:=fun j hj=>by
  simp [World.frozen?,hg]
 have r1:=run_storeCells_cells (P:=P) b c vs 0 w (by simpa using kZ) (by simpa using QV) h1;have r2:=run_storeCells_at (P:=P) b c ty vs 0 cs.toArray w hg (by simp;omega) h1;simp only [Nat.add_zero]at r1 r2;have e:w.setCells b c vs=w.setRow b (cs.take c++vs++cs.drop (c+vs.length)).toArray:=by
  rw [r1]at r2;injection r2
 exact⟨r1,hS,ty,(0,0),by rw [e];exact setRow_heap w b _ _ ty _ hg,fun _=>rfl⟩
theorem mV{α:Type}(l vs:List α)(c N:Nat)(h:c+vs.length≤N)(hN:N≤l.length):
  (l.take c++vs++l.drop (c+vs.length)).take N=(l.take N).take c++vs++(l.take N).drop (c+vs.length):=by
 rw [List.take_append,List.take_of_length_le (l:=l.take c++vs) (by simp;omega),List.take_take,Nat.min_eq_left (by omega),List.drop_take];congr 2;simp;omega
theorem o3(l vs:List Value)(o c k:Nat)(hc:c+vs.length≤k)(hk:o+k≤l.length):
  ((l.take (o+c)++vs++l.drop (o+c+vs.length)).drop o).take k=((l.drop o).take k).take c++vs++((l.drop o).take k).drop (c+vs.length):=by
 have e1:(l.take (o+c)++vs++l.drop (o+c+vs.length)).drop o=(l.drop o).take c++vs++(l.drop o).drop (c+vs.length):=by
  rw [List.append_assoc,List.drop_append_of_le_length (by simp;omega),List.drop_take,Nat.add_sub_cancel_left,List.append_assoc,List.drop_drop,Nat.add_assoc]
 rw [e1];exact mV (l.drop o) vs c k hc (by simp;omega)
theorem dZ(g o:Nat)(t:TypeId)(fz:Nat×Nat): ∀(vs:List Value) (i:Nat) (cur:Array Value) (w:World),w.heap[g]? =some (.cells cur t fz)→qz cur.size fz→o+i+vs.length≤cur.size→(∀v∈vs,v.oneCell'=true)→
  (storeCells ⟨g,o,none⟩ vs i).run P w= .ok () (w.setRow g (cur.toList.take (o+i)++vs++cur.toList.drop (o+i+vs.length)).toArray)
 | [],i,cur,w,hg,_,_,_=>by
  simp only [storeCells,List.append_nil,List.length_nil,Nat.add_zero,List.take_append_drop,Array.toArray_toList];rw [setRow_self w g cur t fz hg];rfl
 | v::rest,i,cur,w,hg,hz,hl,h1=>by
  have hi:o+i<cur.size:=by simp at hl;omega
  have WY:(⟨g,o,none⟩:Addr).add i=⟨g,o+i,none⟩:=by unfold Addr.add;split<;>simp_all
  have kZ:w.cell? ⟨g,o+i,none⟩=some cur[o+i]:=by simp [World.cell?,hg,hi]
  have WZ:w.frozen? ⟨g,o+i,none⟩=false:=by
   simp only [World.frozen?,hg];exact hz.off hi
  have zi:(store ((⟨g,o,none⟩:Addr).add i) v).run P w= .ok () (w.setRow g (cur.setIfInBounds (o+i) v)):=by
   rw [WY,run_store P w _ v _ (h1 v (by simp)),kZ];simp [WZ,setCell_eq_setRow w g (o+i) cur t fz v hg]
  have ih:=dZ g o t fz rest (i+1) (cur.setIfInBounds (o+i) v) (w.setRow g (cur.setIfInBounds (o+i) v)) (setRow_heap w g cur _ t _ hg) (by simpa using hz) (by simp at hl ⊢;omega) (fun x hx=>h1 x (by simp [hx]));simp only [storeCells,adL,zi,adC,ih,setRow_setRow];congr 3;have e:=list_seg_step cur.toList (o+i) v rest (by simp at hl ⊢;omega);simpa [Array.toList_setIfInBounds,Nat.add_assoc] using e
theorem Am{t s n:Nat}{v:Value}{cs vs:List Value}{S:Nat→Prop}(h:(au true t s v n cs).p w S)(c:Nat)(hl:c+vs.length≤cs.length)
  (dR:0<vs.length) (h1: ∀u∈vs,u.oneCell'=true):
  ∃g o w',dU v c= .pointer (some ⟨g,o,none⟩)∧S g∧(storeCells ⟨g,o,none⟩ vs).run P w= .ok () w'∧fE w w'∧w'.heap.size=w.heap.size∧
   (∀k,k≠g→w'.heap[k]? =w.heap[k]?)∧(au true t s v n (cs.take c++vs++cs.drop (c+vs.length))).p w' S:=by
 obtain⟨h0,hS⟩:=h;simp only [if_true]at h0;obtain⟨hlen,hr⟩:=h0;rcases hr with⟨_,rfl⟩ | ⟨g,o,cap,cur,rfl,⟨t',fz,hg,hz⟩,CZ,NZ,mG,Ls⟩
 ·rw [Nat.zero_mul]at hlen;omega
 ·have hns:n*s≤cap*s:=Nat.mul_le_mul_right _ CZ;have mG:=mG (by
   apply Nat.pos_of_ne_zero;rintro rfl;rw [Nat.zero_mul]at hns;omega)
  have W0:o+c+vs.length≤cur.size:=by omega
  have zi:=dZ (P:=P) g (o+c) t' fz vs 0 cur w hg hz (by simpa using W0) h1;simp only [Nat.add_zero]at zi;refine⟨g,o+c,_,by simp [dU,dV],(hS g).2 ⟨by simp [Value.ownBlock],.inl rfl⟩,zi,⟨rfl,rfl,rfl,by simp⟩,by simp,fun k hk=>setRow_other w g k _ hk,?_,hS⟩;simp only [if_true];refine⟨by simp;omega,.inr ⟨g,o,cap,_,rfl,⟨t',fz,setRow_heap w g cur _ t' _ hg,by refine Eq.mp (congrArg (qz · fz) ?_) hz;simp;omega⟩,CZ,NZ,?_,?_⟩⟩
  ·simp only [List.size_toArray,List.length_append,List.length_take,List.length_drop,Array.length_toList];intro _;omega
  ·rw [←Ls];simp only;exact o3 _ vs o c (n*s) (by omega) (by simp;omega)
theorem o4{ti:TI}(h:jS P ti)(a:Addr)(v:Value)(vs:List Value)(hv:v.cells.toList=vs)(hl:vs.length=ti.size){w':World}
  (hr:(storeCells a vs).run P w= .ok () w'):(Instr.storeAt ti.t (.pointer (some a)) v).run P w= .ok () w':=by
 have eL:v.cells.size=ti.size:=by rw [←hl,←hv];simp
 simp [Instr.storeAt,Instr.sureAddr,storeVar,h.sizeOf w,eL,hv,hr]
structure HR (P:Program) (w:World) (ρ:Env) (hp:List Ck) (S:Nat→Nat→Prop) (j:Nat) (ck:Ck) (w':World):Prop where
 old: ∃OY,hp[j]? =some OY∧(OY.den ρ).wr=true
 wr:j=j
 same:fE w w'
 size:w'.heap.size=w.heap.size
 keep: ∀k,¬S j k→w'.heap[k]? =w.heap[k]?
 now:(ck.den ρ).p w' (S j)
theorem xD{hp:List Ck}{ti:TI}(cF:jS P ti){v x:SV}{res:gx}(h:xE hp ti.size v x=some res)(nr:ρ.Ok)
  {S:Nat→Nat→Prop} (cJ:Reads hp ρ w S res.rd) (bV: ∀b∈res.vcs,b.prop ρ):
  res.val= .undef∧∃j ck,res.gg= .set j ck∧∃w',(Instr.storeAt ti.t (x.val ρ) (v.val ρ)).run P w= .ok () w'∧HR P w ρ hp S j ck w':=by
 unfold xE at h;split at h
 ·rename_i b c;split at h
  ·rename_i j b' cs vs hf An;obtain⟨hj,dD⟩:=cH hf;simp only [Ck.qs,beq_iff_eq]at dD;subst dD;obtain⟨e1,e2⟩:=gW ρ An nr;split at h
   ·rename_i hlen;rw [adw]at h;obtain⟨zh,W3,rfl⟩:=h;refine⟨rfl,j,_,rfl,?_⟩;have hS:=cJ j (by simp) _ hj;obtain⟨h1,h2⟩:=nF ρ W3;obtain⟨h3,h4⟩:=pU (P:=P) hS c h2 e2;refine⟨_,o4 cF _ _ _ e1 (by rw [bz];exact hlen) h3,⟨⟨_,hj,rfl⟩,rfl,gZ _ _ _ _,gY _ _ _ _,?_,?_⟩⟩
    ·intro k hk;exact fT _ _ _ _ _ (fun e=>hk ((hS.1 k).2 e))
    ·simp only [Ck.den,h1];exact h4
   ·cases h
  ·cases h
 ·rename_i b i s c;split at h
  ·rename_i j b' cs k e hf An;obtain⟨hj,dD⟩:=cH hf;simp only [Ck.qs,beq_iff_eq]at dD;subst dD;obtain⟨e1,e2⟩:=gW ρ An nr;split at h
   ·rename_i hc;obtain⟨rfl,eL⟩:=hc;split at h
    ·rename_i pre k' n a post RZ;split at h
     ·rename_i hk;subst hk;simp only [adv]at h;subst h;refine⟨rfl,j,_,rfl,?_⟩;have hS:=cJ j (by simp) _ hj;obtain⟨h1,h2⟩:=uN (ρ:=ρ) RZ;obtain⟨KQ,R0⟩:=c7 ρ bV;simp only [E.den]at R0;have bP:(i.den ρ 0).toNat<n:=by omega
      have Ua:(SV.aB ρ [SV.int k e])=[.int k (e.den ρ 0)]:=rfl;rw [Ua]at e1 e2;have dF:c+(i.den ρ 0).toNat+1≤(SV.aB ρ cs).length:=by rw [h1];simp [aF];omega
      obtain⟨h3,h4⟩:=pU (P:=P) (vs:=[.int k (e.den ρ 0)]) hS (c+(i.den ρ 0).toNat) (by simpa using dF) e2;refine⟨_,by rw [show SV.val ρ (.oB b i 1 c)= .pointer (some ⟨ρ.bv.getD b 0,c+(i.den ρ 0).toNat,none⟩) by simp [SV.val,Nat.add_comm]];exact o4 cF _ _ _ e1 (by simpa using eL.symm) h3,
       ⟨⟨_,hj,rfl⟩,rfl,gZ _ _ _ _,gY _ _ _ _,?_,?_⟩⟩
      ·intro k' mQ;exact fT _ _ _ _ _ (fun e=>mQ ((hS.1 k').2 e))
      ·simp only [Ck.den];have:SV.aB ρ (pre++ .cD k n (.rO a i e)::post)=(SV.aB ρ cs).take (c+(i.den ρ 0).toNat)++[.int k (e.den ρ 0)]++(SV.aB ρ cs).drop (c+(i.den ρ 0).toNat+1):=by
        rw [gU,h1];simp only [SV.aB,SV.cells];have W4:(SV.aB ρ pre).length=c:=h2;generalize SV.aB ρ pre=A at W4 ⊢;generalize SV.aB ρ post=B;rw [List.append_assoc A,List.take_append,List.take_of_length_le (l:=A) (by omega),W4,show c+(i.den ρ 0).toNat - c=(i.den ρ 0).toNat by omega,
         List.drop_append,List.drop_of_length_le (l:=A) (by omega),W4,show c+(i.den ρ 0).toNat+1 - c=(i.den ρ 0).toNat+1 by omega,
         List.take_append_of_le_length (by rw [aF];omega),List.drop_append_of_le_length (by rw [aF];omega),List.nil_append]
        simp only [List.append_assoc];congr 1;apply List.ext_getElem?;intro m;by_cases hm:m<n
        ·rw [adz (by rw [aF];exact hm),bd,if_pos hm];simp only [E.den];rcases Nat.lt_trichotomy m (i.den ρ 0).toNat with W5 | heq | WU
         ·rw [if_neg (by omega),adz (by simp [aF];omega),List.getElem?_take_of_lt W5,bd,if_pos hm]
         ·subst heq;rw [if_pos rfl,adA (by simp [aF];omega)];simp [aF,Nat.min_eq_left (Nat.le_of_lt hm)]
         ·rw [if_neg (by omega),adA (by simp [aF];omega)];simp only [List.length_take,aF,Nat.min_eq_left (Nat.le_of_lt bP)];obtain⟨d,rfl⟩: ∃d,m=(i.den ρ 0).toNat+1+d:=⟨m - (i.den ρ 0).toNat - 1,by omega⟩;rw [show(i.den ρ 0).toNat+1+d - (i.den ρ 0).toNat=d+1 by omega,List.singleton_append,List.getElem?_cons_succ,adz (by simp [aF];omega),
           List.getElem?_drop,bd,if_pos (by omega)]
        ·rw [adA (by rw [aF];omega),aF,adA (by simp [aF];omega)];simp only [List.length_take,aF,Nat.min_eq_left (Nat.le_of_lt bP)];obtain⟨d,rfl⟩: ∃d,m=n+d:=⟨m - n,by omega⟩;rw [show n+d - (i.den ρ 0).toNat=(n - (i.den ρ 0).toNat - 1)+d+1 by omega,List.singleton_append,List.getElem?_cons_succ,
          adA (by simp [aF];omega)]
         congr 1;simp [aF];omega
       rw [this];exact h4
     ·cases h
    ·cases h
   ·cases h
  ·cases h
 ·rename_i xv i s c;split at h
  ·rename_i j v' t s' n aH vs hf An;obtain⟨hj,dD⟩:=cK hf;simp only [Ck.lI,beq_iff_eq]at dD;subst dD;obtain⟨e1,e2⟩:=gW ρ An nr;split at h
   ·rename_i hc;obtain⟨rfl,hs,mg,hlen⟩:=hc;rw [adw]at h;obtain⟨aT,dP,rfl⟩:=h;refine⟨rfl,j,_,rfl,?_⟩;have hS:=cJ j (by simp) _ hj;obtain⟨KQ,R0⟩:=c7 ρ bV;have bP:(i.den ρ 0).toNat<(n.den ρ 0).toNat:=by omega
    obtain⟨p1,p2,p3,p4⟩:=qC ρ dP;have o5:=OX s (fun(i:Nat)=>rowAt ρ aH i) (fun(i:Nat)=>rowAt ρ aT i) (fun i=>by rw [cY];exact hs.symm) (fun i=>by rw [cY,p1];exact hs.symm)
     (n.den ρ 0).toNat (i.den ρ 0).toNat c (SV.aB ρ vs) bP (by rw [hs];exact p2) p3 p4
    have Ua:(SV.aB ρ vs).length=ti.size:=by rw [bz];exact hlen
    have hbound:(i.den ρ 0).toNat*s+c+(SV.aB ρ vs).length≤(aN ρ (n.den ρ 0).toNat aH).length:=by
     rw [cZ,←hs];have:=Nat.mul_le_mul_right s (Nat.succ_le_of_lt bP);rw [Nat.succ_mul]at this;omega
    obtain⟨g,o,w',g1,g2,g3,g4,g5,g6,g7⟩:=Am (P:=P) hS _ hbound (by omega) e2;refine⟨w',?_,⟨⟨_,hj,rfl⟩,rfl,g4,g5,?_,?_⟩⟩
    ·rw [show SV.val ρ (.pv xv i s c)=dU (ρ.vv.getD xv V1.nil).v ((i.den ρ 0).toNat*s+c)from rfl,g1];exact o4 cF _ _ _ e1 Ua g3
    ·intro k hk;exact g6 k (fun e=>hk (e▸g2))
    ·simp only [Ck.den];rw [show aN ρ (n.den ρ 0).toNat aT=(List.range (n.den ρ 0).toNat).flatMap fun i=>rowAt ρ aT i from rfl,o5];exact g7
   ·cases h
  ·cases h
 ·cases h
end
def eR:List Value→List fJ→Prop
 | [],[]=>True
 | .int q _::r,some q'::l=>q=q'∧eR r l
 | .bool _::r,none::l=>eR r l
 | _,_=>False
def qZ:List Value→List Value→Bool
 | [],[]=>true
 | .int _ a::r,.int _ b::s=>a==b&&qZ r s
 | .bool a::r,.bool b::s=>a==b&&qZ r s
 | _,_=>false
theorem d_: ∀{xs:List Value} {l:List fJ},eR xs l→xs.length=l.length
 | [],[],_=>rfl
 | x::r,[],h=>by cases x<;>simp [eR]at h
 | [],k::l,h=>by simp [eR]at h
 | x::r,k::l,h=>by
  have:eR r l:=by cases x<;>cases k<;>simp_all [eR]
  simp [d_ this]
theorem ef: ∀{l1:List fJ} {xs:List Value} {l2:List fJ},eR xs (l1++l2)→eR (xs.take l1.length) l1∧eR (xs.drop l1.length) l2
 | [],xs,l2,h=>by simpa [eR] using h
 | k::l1,[],l2,h=>by simp [eR]at h
 | k::l1,x::r,l2,h=>by
  simp only [List.cons_append,List.length_cons,List.take_succ_cons,List.drop_succ_cons]at h ⊢;cases x<;>cases k<;>simp only [eR]at h ⊢
  ·exact ef h
  ·exact⟨⟨h.1,(ef h.2).1⟩,(ef h.2).2⟩
theorem nH: ∀{l:List fJ} {a c b d:List Value},eR a l→eR c l→qZ (a++b) (c++d)=(qZ a c&&qZ b d)
 | [],a,c,b,d,ha,hc=>by
  have h1:=d_ ha;have h2:=d_ hc;have:a=[]:=adR h1;have:c=[]:=adR h2
  subst_vars
  simp [qZ]
 | k::l,[],c,b,d,ha,hc=>by simp [eR]at ha
 | k::l,x::a,[],b,d,ha,hc=>by simp [eR]at hc
 | k::l,x::a,y::c,b,d,ha,hc=>by
  cases x<;>cases k<;>simp only [eR]at ha<;>cases y<;>simp only [eR]at hc
  ·simp only [List.cons_append,qZ,nH ha hc,Bool.and_assoc]
  ·simp only [List.cons_append,qZ,nH ha.2 hc.2,Bool.and_assoc]
def C8(P:Program)(t:TypeId)(cs:List Value)(x:Value):Prop:=
 match P.underlying t with
 | some (.struct _)=>x= .agg cs.toArray
 | some (.array _ _)=>x= .agg cs.toArray
 | _=>cs=[x]
section
variable {P:Program}
theorem gC(w:World){d:Nat}{t:TypeId}{l:List fJ}(hl:eG P d t=some l)(hs:P.cellsOf t=l.length)(cs:List Value)(off:Nat)
  (hf:eR ((cs.drop off).take l.length) l): ∃x,(part t cs.toArray off).run P w= .ok x w∧C8 P t ((cs.drop off).take l.length) x:=by
 have DX: ∃i,P.info? t=some i∧i.size=l.length:=by
  cases d with
  | zero=>simp [eG]at hl
  | succ d=>
   cases hi:P.info? t with
   | none=>simp [eG,Program.underlying,hi]at hl
   | some i=>exact⟨i,rfl,by simpa [Program.cellsOf,hi] using hs⟩
 obtain⟨i,hi,eL⟩:=DX;have Zg:(sizeOf t).run P w= .ok l.length w:=by simp [sizeOf,typeInfo,hi,eL]
 cases d with
 | zero=>simp [eG]at hl
 | succ d=>
  unfold eG at hl;cases hu:P.underlying t with
  | none=>simp [hu]at hl
  | some td=>
   have uO:=run_underlying hu w;rw [hu]at hl;cases td with
   | int k=>
    simp only [adv]at hl;subst hl;have hlen:=d_ hf;simp only [List.length_cons,List.length_nil]at hlen hf;cases hc:cs[off]? with
    | none=>
     rw [List.getElem?_eq_none_iff]at hc;rw [List.drop_of_length_le hc]at hlen;simp at hlen
    | some x=>
     refine⟨x,by simp [part,isAgg,uO,hc],?_⟩;simp only [C8,hu];have:off<cs.length:=(adu.1 hc).1;rw [List.drop_eq_getElem_cons this];simp [(adu.1 hc).2]
   | bool=>
    simp only [adv]at hl;subst hl;have hlen:=d_ hf;simp only [List.length_cons,List.length_nil]at hlen hf;cases hc:cs[off]? with
    | none=>
     rw [List.getElem?_eq_none_iff]at hc;rw [List.drop_of_length_le hc]at hlen;simp at hlen
    | some x=>
     refine⟨x,by simp [part,isAgg,uO,hc],?_⟩;simp only [C8,hu];have:off<cs.length:=(adu.1 hc).1;rw [List.drop_eq_getElem_cons this];simp [(adu.1 hc).2]
   | array n e=>
    refine⟨_,by simp [part,isAgg,uO,Zg];rfl,?_⟩;simp only [C8,hu]
   | struct fs=>
    refine⟨_,by simp [part,isAgg,uO,Zg];rfl,?_⟩;simp only [C8,hu]
   | _=>simp at hl
def W6(P:Program)(dd:Nat)(t:TypeId)(l:List fJ):Prop:=
 ∀(w:World) (xs ys:List Value) (x y:Value),eR xs l→eR ys l→C8 P t xs x→C8 P t ys y→(ad4 dd t x y).run P w= .ok (qZ xs ys) w
theorem oh(w:World)(dd:Nat){d:Nat}{e:TypeId}{l:List fJ}(hl:eG P d e=some l)(hs:P.cellsOf e=l.length)(IH:W6 P dd e l)(xs ys:List Value):
  ∀(m k:Nat),eR (xs.drop (k*l.length)) (List.replicate m l).flatten→eR (ys.drop (k*l.length)) (List.replicate m l).flatten→
   (Op.eqItems dd e (P.cellsOf e) xs.toArray ys.toArray (List.range' k m)).run P w= .ok (qZ (xs.drop (k*l.length)) (ys.drop (k*l.length))) w
 | 0,k,hx,hy=>by
  have h1:xs.drop (k*l.length)=[]:=adR (by simpa using d_ hx);have h2:ys.drop (k*l.length)=[]:=adR (by simpa using d_ hy);rw [h1,h2];simp [Op.eqItems,qZ]
 | m+1,k,hx,hy=>by
  rw [List.replicate_succ,List.flatten_cons]at hx hy;obtain⟨Gi,Ub⟩:=ef hx;obtain⟨OZ,QW⟩:=ef hy;rw [List.drop_drop]at Ub QW;obtain⟨a,pa,va⟩:=gC w hl hs xs (k*l.length) Gi;obtain⟨b,pb,vb⟩:=gC w hl hs ys (k*l.length) OZ;have W7:=IH w _ _ a b Gi OZ va vb;have ih:=oh w dd hl hs IH xs ys m (k+1) (by rw [Nat.add_mul,Nat.one_mul];exact Ub) (by rw [Nat.add_mul,Nat.one_mul];exact QW);rw [Nat.add_mul,Nat.one_mul]at ih;have Gj:qZ (xs.drop (k*l.length)) (ys.drop (k*l.length))=
    (qZ ((xs.drop (k*l.length)).take l.length) ((ys.drop (k*l.length)).take l.length)&&qZ (xs.drop (k*l.length+l.length)) (ys.drop (k*l.length+l.length))):=by
   rw [←nH Gi OZ,←List.drop_drop,←List.drop_drop,List.take_append_drop,List.take_append_drop]
  rw [List.range'_succ];simp only [Op.eqItems,adL,hs,pa,pb,W7,adC];rw [hs]at ih;rw [Gj];cases qZ ((xs.drop (k*l.length)).take l.length) ((ys.drop (k*l.length)).take l.length)
  ·simp
  ·simpa using ih
theorem mW(w:World)(dd:Nat)(f:TypeId→Option (List fJ))(d:Nat)(QX: ∀t,f t=eG P d t)(IH: ∀t l,eG P d t=some l→W6 P dd t l)(xs ys:List Value):
  ∀(fs:List Field) (off:Nat) (L:List fJ),jv P f fs off=some L→eR (xs.drop off) L→eR (ys.drop off) L→
   (Op.eqFields dd xs.toArray ys.toArray fs).run P w= .ok (qZ (xs.drop off) (ys.drop off)) w
 | [],off,L,h,hx,hy=>by
  simp only [jv,adv]at h;subst h;have h1:xs.drop off=[]:=adR (by simpa using d_ hx);have h2:ys.drop off=[]:=adR (by simpa using d_ hy);rw [h1,h2];simp [Op.eqFields,qZ]
 | fd::fs,off,L,h,hx,hy=>by
  unfold jv at h;split at h
  ·cases h
  ·rename_i hn;simp only [Bool.or_eq_true,beq_iff_eq,bne_iff_ne,ne_eq,not_or,Decidable.not_not]at hn;obtain⟨hn,rfl⟩:=hn;split at h
   ·rename_i l hl;split at h
    ·rename_i hs;rw [adw]at h;obtain⟨L',R2,rfl⟩:=h;rw [QX]at hl;have nC:P.cellsOf fd.type=l.length:=by simpa using hs
     obtain⟨Gi,Ub⟩:=ef hx;obtain⟨OZ,QW⟩:=ef hy;rw [List.drop_drop]at Ub QW;obtain⟨a,pa,va⟩:=gC w hl nC xs fd.offset Gi;obtain⟨b,pb,vb⟩:=gC w hl nC ys fd.offset OZ;have W7:=IH _ _ hl w _ _ a b Gi OZ va vb;have ih:=mW w dd f d QX IH xs ys fs (fd.offset+l.length) L' R2 Ub QW;have Gj:qZ (xs.drop fd.offset) (ys.drop fd.offset)=
       (qZ ((xs.drop fd.offset).take l.length) ((ys.drop fd.offset).take l.length)&&qZ (xs.drop (fd.offset+l.length)) (ys.drop (fd.offset+l.length))):=by
      rw [←nH Gi OZ,←List.drop_drop,←List.drop_drop,List.take_append_drop,List.take_append_drop]
     simp only [Op.eqFields,hn,ne_eq,not_false_eq_true,if_true,adL,pa,pb,W7,adC];rw [Gj];cases qZ ((xs.drop fd.offset).take l.length) ((ys.drop fd.offset).take l.length)
     ·simp
     ·simpa using ih
    ·cases h
   ·cases h
theorem lJ(k:Nat): ∀(d:Nat) (t:TypeId) (L:List fJ),eG P d t=some L→W6 P (k+d) t L
 | 0,t,L,h=>by simp [eG]at h
 | d+1,t,L,h=>by
  intro w xs ys x y hx hy vx vy;unfold eG at h;cases hu:P.underlying t with
  | none=>simp [hu]at h
  | some td=>
   rw [hu]at h;simp only [C8,hu]at vx vy;cases td with
   | int q=>
    simp only [adv]at h;subst h vx vy;cases x<;>simp only [eR]at hx
    cases y<;>simp only [eR]at hy
    obtain⟨rfl,_⟩:=hx;obtain⟨rfl,_⟩:=hy;rw [show k+(d+1)=(k+d)+1 from rfl,run_equalIn_int w _ t _ _ _ _ hu];simp [qZ]
   | bool=>
    simp only [adv]at h;subst h vx vy;cases x<;>simp only [eR]at hx
    cases y<;>simp only [eR]at hy
    rw [show k+(d+1)=(k+d)+1 from rfl,run_equalIn_bool' w _ t _ _ hu];simp [qZ]
   | array n e=>
    simp only at h vx vy;subst vx vy;split at h
    ·rename_i l hl;split at h
     ·rename_i hs;simp only [adv]at h;subst h;have nC:P.cellsOf e=l.length:=by simpa using hs
      have DX: ∃i,P.info? e=some i:=by
       cases d with
       | zero=>simp [eG]at hl
       | succ d=>
        cases hi:P.info? e with
        | none=>simp [eG,Program.underlying,hi]at hl
        | some i=>exact⟨i,rfl⟩
      obtain⟨i,hi⟩:=DX;rw [show k+(d+1)=(k+d)+1 from rfl,run_equalIn_array w (k+d) _ _ hu hi,List.range_eq_range'];have:=oh w (k+d) hl nC (lJ k d e l hl) xs ys n 0 (by simpa using hx) (by simpa using hy);simpa using this
     ·cases h
    ·cases h
   | struct fs=>
    simp only at h vx vy;subst vx vy;split at h
    ·cases h
    ·rename_i zi;have Zh:P.fieldsOf t=fs:=by simp [Program.fieldsOf,hu]
     rw [show k+(d+1)=(k+d)+1 from rfl,run_equalIn_struct w (k+d) t _ _ (by rw [Zh];exact hu) (by simpa using zi),Zh];have:=mW w (k+d) (eG P d) d (fun _=>rfl) (lJ k d) xs ys fs.toList 0 L h (by simpa using hx) (by simpa using hy);simpa using this
   | _=>simp at h
end
end Go.RX
