/- Executor. -/
import Derived.Test.YtllcdnkfbeokhaaGreatM04
open Go.Op renaming equalIn → auW
open Go.Result renaming andThen_ok → aut
open Go.Sem renaming run_bind → auC
open List renaming eq_nil_of_length_eq_zero → auH, getElem?_append_left → auu, getElem?_append_right → auv, getElem?_eq_some_iff → aup, length_append → aum, mem_filter → auR
open Option renaming map_eq_some_iff → aus
open Option.some renaming injEq → auq
open Prod.mk renaming injEq → au2
namespace Go.RX
section
variable {P:Program} {w:World} {ρ:Env}
def Reads(hp:List Ck)(ρ:Env)(w:World)(S:Nat→Nat→Prop)(rd:List Nat):Prop:=
 ∀j∈rd,∀ck,hp[j]? =some ck→(ck.den ρ).p w (S j)
theorem xV{c:Nat}{cs pre post:List SV}{k:IntKind}{n:Nat}{a:E}(h:KB c cs=some (pre,k,n,a,post)):
  SV.ao ρ cs=SV.ao ρ pre++aj k n (a.den ρ)++SV.ao ρ post∧(SV.ao ρ pre).length=c:=by
 unfold KB at h;split at h
 ·rename_i hle;split at h
  ·rename_i k' n' a' r YF h1 h2;simp only [auq,au2]at h;obtain⟨rfl,rfl,rfl,rfl,rfl⟩:=h;have e1:=ft ρ _ _ _ h1;have e2:=jK ρ _ _ _ h2;simp only [SV.ao,SV.cells]at e1;refine⟨?_,?_⟩
   ·rw [e2,List.append_assoc,e1,List.take_append_drop]
   ·rw [e2,List.length_take,bu];exact Nat.min_eq_left hle
  ·cases h
 ·cases h
theorem zW{a b:E}(h: ∀c∈eG a b,c.prop ρ):a.den ρ 0≤b.den ρ 0:=by
 unfold eG at h;split at h
 ·rename_i he;subst he;exact Int.le_refl _
 ·have key:(xS a b).den ρ=true:=by
   by_cases hl:xS a b= .lit true
   ·rw [hl];rfl
   ·exact(BE.bQ ρ _).2 (h _ (auR.2 ⟨by simp,by simpa using hl⟩))
  rw [iX]at key;exact of_decide_eq_true key
theorem PW(k:IntKind)(n:Nat)(a:E):aG ρ n [⟨.int k,1,a⟩]=aj k n (a.den ρ):=by
 unfold aG aM aj
 induction n with
 | zero=>rfl
 | succ n ih=>
  rw [List.range_succ,List.flatMap_append,List.map_append,ih];simp [bP.cells,ay,aj]
theorem zX{ρ:Env}: ∀{cs:List SV} {o:Nat} {acc a:E},vi o acc cs=some a→
  (∀j,j<o→qW (a.den ρ) j=qW (acc.den ρ) j)∧(SV.ao ρ cs).length=cs.length∧∀j,j<cs.length→(SV.ao ρ cs)[j]? =some (.string ⟨(dC (qW (a.den ρ) (o+j))).toArray⟩)
 | [],o,acc,a,h=>by
  simp only [vi,auq]at h;subst h;exact⟨fun _ _=>rfl,rfl,fun j hj=>absurd hj (Nat.not_lt_zero _)⟩
 | v::r,o,acc,a,h=>by
  have key: ∀s:E,SV.cells ρ v=[.string ⟨(dC (s.den ρ)).toArray⟩]→vi (o+1) (.ry acc (.lit o) s) r=some a→
    (∀j,j<o→qW (a.den ρ) j=qW (acc.den ρ) j)∧(SV.ao ρ (v::r)).length=(v::r).length∧∀j,j<(v::r).length→(SV.ao ρ (v::r))[j]? =some (.string ⟨(dC (qW (a.den ρ) (o+j))).toArray⟩):=by
   intro s hv h;obtain⟨i1,i2,i3⟩:=zX (ρ:=ρ) h;refine⟨fun j hj=>?_,by simp [SV.ao,hv,i2],fun j hj=>?_⟩
   ·rw [i1 j (by omega),kJ,kF,dj,if_neg (by simp;omega)]
   ·simp only [SV.ao,hv,List.singleton_append];cases j with
    | zero=>
     simp only [List.getElem?_cons_zero,Nat.add_zero];rw [i1 o (by omega),kJ,kF,dj,if_pos (by simp)]
    | succ j=>
     rw [List.getElem?_cons_succ,i3 j (by simpa using hj)];congr 6;omega
  cases v with
  | str l=>exact key (B9 l) (by simp [SV.cells,nq,pc]) (by simpa [vi] using h)
  | mu s=>exact key s rfl (by simpa [vi] using h)
  | _=>simp [vi]at h
theorem DL{ρ:Env}{cs:List SV}{a:E}(h:PX cs=some a)(j:Nat)(hj:j<cs.length):(SV.ao ρ cs)[j]? =some (.string ⟨(dC (qW (a.den ρ) j)).toArray⟩):=by
 have:=(zX (ρ:=ρ) h).2.2 j hj
 rwa [Nat.zero_add]at this
theorem tu{hp:List Ck}{ti:TI}(dc:lu P ti){x:SV}{res:iC}(h:zj hp ti.k.agg ti.size x=some res)
  {S:Nat→Nat→Prop} (db:Reads hp ρ w S res.rd) (cd: ∀b∈res.vcs,b.prop ρ):
  (Instr.loadAt ti.t (x.val ρ)).run P w= .ok (res.val.val ρ) w∧res.iD= .none:=by
 unfold zj at h;split at h
 ·rename_i b c;split at h
  ·rename_i j b' wr cs hf;obtain⟨hj,dH⟩:=dD hf;simp only [Ck.s5,beq_iff_eq]at dH;subst dH;split at h
   ·rename_i y hy;rw [aus]at h;obtain⟨v,hv,rfl⟩:=h;have hS:=db j (by simp) _ hj;obtain⟨h1,h2⟩:=fj ρ hy;refine⟨?_,rfl⟩;refine nu dc ⟨ρ.bv.getD b 0,c,none⟩ (SV.ao ρ y) (by rw [h1,List.length_take,List.length_drop];omega) ?_ _ (od ρ hv);intro i u hu;rw [h1]at hu;refine j7 hS c i u ?_;rw [List.getElem?_take]at hu;split at hu
    ·exact hu
    ·cases hu
   ·cases h
  ·cases h
 ·rename_i b i s c;split at h
  ·rename_i j b' wr cs hf;obtain⟨hj,dH⟩:=dD hf;simp only [Ck.s5,beq_iff_eq]at dH;subst dH;split at h
   ·rename_i hc;obtain⟨rfl,gx,yN⟩:=hc;split at h
    ·rename_i pre k n a post YG;simp only [auq]at h;subst h;have hS:=db j (by simp) _ hj;obtain⟨e1,e2⟩:=xV (ρ:=ρ) YG;obtain⟨OY,OZ⟩:=dL ρ cd;simp only [E.den]at OZ;refine⟨?_,rfl⟩;refine nu dc ⟨ρ.bv.getD b 0,(i.den ρ 0).toNat*1+c,none⟩ [.int k ((eJ a i).den ρ 0)] (by simp [gx]) ?_ _ ⟨fun h=>(by rw [yN]at h;cases h),fun _=>rfl⟩;intro m u hu;refine j7 hS _ m u ?_;have hm:m=0:=by
      cases m with
      | zero=>rfl
      | succ m=>simp at hu
     subst hm;rw [e1,List.getElem?_drop,List.append_assoc,auv (by omega),e2,auu (by rw [aE];omega),bF,
      if_pos (by omega)]
     simp only [List.getElem?_cons_zero,auq]at hu;rw [←hu,cX];congr 3;omega
    ·split at h
     ·rename_i hc0;split at h
      ·rename_i a qH;cases h;have hS:=db j (by simp) _ hj;obtain⟨OY,OZ⟩:=dL ρ cd;simp only [E.den]at OZ;refine⟨?_,rfl⟩;have lX:=DL (ρ:=ρ) qH (i.den ρ 0).toNat (by omega);refine nu dc ⟨ρ.bv.getD b 0,(i.den ρ 0).toNat*1+c,none⟩ [.string ⟨(dC (qW (a.den ρ) (i.den ρ 0).toNat)).toArray⟩] (by simp [gx]) ?_ _ ⟨fun h=>(by rw [yN]at h;cases h),fun _=>by rw [ph,zU]⟩;intro m u hu;refine j7 hS _ m u ?_;have hm:m=0:=by
        cases m with
        | zero=>rfl
        | succ m=>simp at hu
       subst hm;rw [hc0,Nat.mul_one,Nat.add_zero,List.getElem?_drop,Nat.add_zero,lX];simpa using hu
      ·cases h
     ·cases h
   ·cases h
  ·cases h
 ·rename_i v i s c;split at h
  ·rename_i j md v' t s' n aA hf;obtain⟨hj,dH⟩:=cZ hf;simp only [Ck.mI,beq_iff_eq]at dH;subst dH;split at h
   ·rename_i hc;obtain⟨rfl,hs⟩:=hc;split at h
    ·split at h
     ·rename_i cF k a;split at h
      ·rename_i hca;obtain⟨rfl,yN⟩:=hca;cases h;have hS:=db j (by simp) _ hj;simp only at cd;have q1:=zW (ρ:=ρ) (fun b hb=>cd b (List.mem_append_left _ hb));have q2:=zW (ρ:=ρ) (fun b hb=>cd b (List.mem_append_right _ hb));rw [bG]at q2;simp only [E.den]at q1 q2;have kZ:s=1:=by simpa [b_] using hs
       subst kZ;obtain⟨a0,cp,hv⟩:=ny hS (by omega);refine⟨?_,rfl⟩;simp only [SV.val,fS,hv];refine nu dc _ (aj k ti.size ((lA a i).den ρ)) (aE ..) ?_ _ ⟨fun _=>by simp [SV.ao,SV.cells],fun h=>(by rw [yN]at h;cases h)⟩;intro m u hu;rw [bF]at hu;split at hu
       ·rename_i hm;simp only [auq]at hu;have hu':((aG ρ (n.den ρ 0).toNat [⟨.int k,1,a⟩]).drop ((i.den ρ 0).toNat*1+0))[m]? =some u:=by
         rw [PW,List.getElem?_drop,bF,if_pos (by omega),←hu,eT];congr 3;omega
        obtain⟨a',m',cp',s7,_,lX⟩:=FU hS _ m u hu';rw [hv]at s7;cases s7;exact lX
       ·cases hu
      ·cases h
     ·cases h
    split at h
    ·rename_i es zk;split at h
     ·rename_i y hy;rw [aus]at h;obtain⟨x,hx,rfl⟩:=h;have hS:=db j (by simp) _ hj;obtain⟨OY,OZ⟩:=dL ρ cd;obtain⟨h1,h2⟩:=fj ρ hy;have h3:=ns ρ zk;have cF:(i.den ρ 0).toNat<(n.den ρ 0).toNat:=by omega
      have IF:=Uv ρ aA (n.den ρ 0).toNat (i.den ρ 0).toNat cF;obtain⟨a,cp,hv⟩:=ny hS (by omega);refine⟨?_,rfl⟩;simp only [SV.val,fS,hv];refine nu dc _ (SV.ao ρ y) (by rw [h1,List.length_take,List.length_drop];omega) ?_ _ (od ρ hx);intro m u hu;have hu':((aG ρ (n.den ρ 0).toNat aA).drop ((i.den ρ 0).toNat*s+c))[m]? =some u:=by
       rw [h1,h3,←IF,←hs]at hu;rw [List.getElem?_take]at hu;split at hu
       ·rw [List.getElem?_drop,List.getElem?_take]at hu;split at hu
        ·rw [List.getElem?_drop]at hu;rw [List.getElem?_drop,←hu];congr 1;omega
        ·cases hu
       ·cases hu
      obtain⟨a',m',cp',s7,_,lX⟩:=FU hS _ m u hu';rw [hv]at s7;cases s7;exact lX
     ·cases h
    ·cases h
   ·cases h
  ·cases h
 ·cases h
theorem iL(b:Nat): ∀(vs:List Value) (o:Nat) (w:World),(w.setCells b o vs).heap.size=w.heap.size
 | [],_,_=>rfl
 | v::r,o,w=>by rw [World.setCells,iL b r];simp [World.setCell]
theorem iM(b:Nat): ∀(vs:List Value) (o:Nat) (w:World),iP w (w.setCells b o vs)
 | [],_,w=>iP.refl w
 | v::r,o,w=>by
  rw [World.setCells];exact iP.trans (b:=w.setCell ⟨b,o,none⟩ v) ⟨rfl,rfl,rfl,by simp [World.setCell]⟩ (iM b r (o+1) _)
theorem gT(b:Nat): ∀(vs:List Value) (o:Nat) (w:World) (k:Nat),k≠b→(w.setCells b o vs).heap[k]? =w.heap[k]?
 | [],_,_,_,_=>rfl
 | v::r,o,w,k,hk=>by
  rw [World.setCells,gT b r (o+1) _ k hk];simp only [World.setCell,Array.getElem?_modify];rw [if_neg (by omega)]
theorem pw{b:Nat}{cs vs:List Value}{S:Nat→Prop}(h:(ak b true cs).p w S)(c:Nat)(hl:c+vs.length≤cs.length)
  (h1: ∀u∈vs,u.oneCell'=true):
  (storeCells ⟨b,c,none⟩ vs).run P w= .ok () (w.setCells b c vs)∧(ak b true (cs.take c++vs++cs.drop (c+vs.length))).p (w.setCells b c vs) S:=by
 obtain⟨hS,ty,fz,hg,hf⟩:=h;have hfz:=hf rfl;subst hfz;have lX: ∀j,j<vs.length→(w.cell? ⟨b,c+j,none⟩).isSome=true:=fun j hj=>by
  rw [cell_of_row w b (c+j) _ ty (0,0) hg];simp;omega
 have XD: ∀j,j<vs.length→w.frozen? ⟨b,c+j,none⟩=false:=fun j hj=>by
  simp [World.frozen?,hg]
 have r1:=run_storeCells_cells (P:=P) b c vs 0 w (by simpa using lX) (by simpa using XD) h1;have r2:=run_storeCells_at (P:=P) b c ty vs 0 cs.toArray w hg (by simp;omega) h1;simp only [Nat.add_zero]at r1 r2;have e:w.setCells b c vs=w.setRow b (cs.take c++vs++cs.drop (c+vs.length)).toArray:=by
  rw [r1]at r2;injection r2
 exact⟨r1,hS,ty,(0,0),by rw [e];exact setRow_heap w b _ _ ty _ hg,fun _=>rfl⟩
theorem PY{α:Type}(l vs:List α)(c N:Nat)(h:c+vs.length≤N)(hN:N≤l.length):
  (l.take c++vs++l.drop (c+vs.length)).take N=(l.take N).take c++vs++(l.take N).drop (c+vs.length):=by
 rw [List.take_append,List.take_of_length_le (l:=l.take c++vs) (by simp;omega),List.take_take,Nat.min_eq_left (by omega),List.drop_take];congr 2;simp;omega
theorem rG(l vs:List Value)(o c k:Nat)(hc:c+vs.length≤k)(hk:o+k≤l.length):
  ((l.take (o+c)++vs++l.drop (o+c+vs.length)).drop o).take k=((l.drop o).take k).take c++vs++((l.drop o).take k).drop (c+vs.length):=by
 have e1:(l.take (o+c)++vs++l.drop (o+c+vs.length)).drop o=(l.drop o).take c++vs++(l.drop o).drop (c+vs.length):=by
  rw [List.append_assoc,List.drop_append_of_le_length (by simp;omega),List.drop_take,Nat.add_sub_cancel_left,List.append_assoc,List.drop_drop,Nat.add_assoc]
 rw [e1];exact PY (l.drop o) vs c k hc (by simp;omega)
theorem fX(g o:Nat)(t:TypeId)(fz:Nat×Nat): ∀(vs:List Value) (i:Nat) (cur:Array Value) (w:World),w.heap[g]? =some (.cells cur t fz)→ru cur.size fz→o+i+vs.length≤cur.size→(∀v∈vs,v.oneCell'=true)→
  (storeCells ⟨g,o,none⟩ vs i).run P w= .ok () (w.setRow g (cur.toList.take (o+i)++vs++cur.toList.drop (o+i+vs.length)).toArray)
 | [],i,cur,w,hg,_,_,_=>by
  simp only [storeCells,List.append_nil,List.length_nil,Nat.add_zero,List.take_append_drop,Array.toArray_toList];rw [setRow_self w g cur t fz hg];rfl
 | v::rest,i,cur,w,hg,hz,hl,h1=>by
  have hi:o+i<cur.size:=by simp at hl;omega
  have ag5:(⟨g,o,none⟩:Addr).add i=⟨g,o+i,none⟩:=by unfold Addr.add;split<;>simp_all
  have lX:w.cell? ⟨g,o+i,none⟩=some cur[o+i]:=by simp [World.cell?,hg,hi]
  have ag6:w.frozen? ⟨g,o+i,none⟩=false:=by
   simp only [World.frozen?,hg];exact hz.off hi
  have qH:(store ((⟨g,o,none⟩:Addr).add i) v).run P w= .ok () (w.setRow g (cur.setIfInBounds (o+i) v)):=by
   rw [ag5,run_store P w _ v _ (h1 v (by simp)),lX];simp [ag6,setCell_eq_setRow w g (o+i) cur t fz v hg]
  have ih:=fX g o t fz rest (i+1) (cur.setIfInBounds (o+i) v) (w.setRow g (cur.setIfInBounds (o+i) v)) (setRow_heap w g cur _ t _ hg) (by simpa using hz) (by simp at hl ⊢;omega) (fun x hx=>h1 x (by simp [hx]));simp only [storeCells,auC,qH,aut,ih,setRow_setRow];congr 3;have e:=list_seg_step cur.toList (o+i) v rest (by simp at hl ⊢;omega);simpa [Array.toList_setIfInBounds,Nat.add_assoc] using e
theorem CR{t s n:Nat}{v:Value}{cs vs:List Value}{S:Nat→Prop}(h:(aB true t s v n cs).p w S)(c:Nat)(hl:c+vs.length≤cs.length)
  (fy:0<vs.length) (h1: ∀u∈vs,u.oneCell'=true):
  ∃g o w',fS v c= .pointer (some ⟨g,o,none⟩)∧S g∧(storeCells ⟨g,o,none⟩ vs).run P w= .ok () w'∧iP w w'∧w'.heap.size=w.heap.size∧
   (∀k,k≠g→w'.heap[k]? =w.heap[k]?)∧(aB true t s v n (cs.take c++vs++cs.drop (c+vs.length))).p w' S:=by
 obtain⟨h0,hS⟩:=h;simp only [if_true]at h0;obtain⟨hlen,hr⟩:=h0;rcases hr with⟨_,rfl⟩ | ⟨g,o,cap,cur,rfl,⟨t',fz,hg,hz⟩,Fp,Ur,nU,uY⟩
 ·rw [Nat.zero_mul]at hlen;omega
 ·have hns:n*s≤cap*s:=Nat.mul_le_mul_right _ Fp;have nU:=nU (by
   apply Nat.pos_of_ne_zero;rintro rfl;rw [Nat.zero_mul]at hns;omega)
  have PZ:o+c+vs.length≤cur.size:=by omega
  have qH:=fX (P:=P) g (o+c) t' fz vs 0 cur w hg hz (by simpa using PZ) h1;simp only [Nat.add_zero]at qH;refine⟨g,o+c,_,by simp [fS,fV],(hS g).2 ⟨by simp [Value.ownBlock],.inl rfl⟩,qH,⟨rfl,rfl,rfl,by simp⟩,by simp,fun k hk=>setRow_other w g k _ hk,?_,hS⟩;simp only [if_true];refine⟨by simp;omega,.inr ⟨g,o,cap,_,rfl,⟨t',fz,setRow_heap w g cur _ t' _ hg,by refine Eq.mp (congrArg (ru · fz) ?_) hz;simp;omega⟩,Fp,Ur,?_,?_⟩⟩
  ·simp only [List.size_toArray,aum,List.length_take,List.length_drop,Array.length_toList];intro _;omega
  ·rw [←uY];simp only;exact rG _ vs o c (n*s) (by omega) (by simp;omega)
theorem rH{ti:TI}(h:lu P ti)(a:Addr)(v:Value)(vs:List Value)(hv:v.cells.toList=vs)(hl:vs.length=ti.size){w':World}
  (hr:(storeCells a vs).run P w= .ok () w'):(Instr.storeAt ti.t (.pointer (some a)) v).run P w= .ok () w':=by
 have gx:v.cells.size=ti.size:=by rw [←hl,←hv];simp
 simp [Instr.storeAt,Instr.sureAddr,storeVar,h.sizeOf w,gx,hv,hr]
structure CS (P:Program) (w:World) (ρ:Env) (hp:List Ck) (S:Nat→Nat→Prop) (j:Nat) (ck:Ck) (w':World):Prop where
 old: ∃Ux,hp[j]? =some Ux∧(Ux.den ρ).wr=true
 wr:j=j
 same:iP w w'
 size:w'.heap.size=w.heap.size
 YB: ∀k,¬S j k→w'.heap[k]? =w.heap[k]?
 now:(ck.den ρ).p w' (S j)
theorem zY{hp:List Ck}{ti:TI}(dc:lu P ti){v x:SV}{res:iC}(h:zZ hp ti.size v x=some res)(iz:ρ.Ok)
  {S:Nat→Nat→Prop} (db:Reads hp ρ w S res.rd) (cd: ∀b∈res.vcs,b.prop ρ):
  res.val= .undef∧∃j ck,res.iD= .set j ck∧∃w',(Instr.storeAt ti.t (x.val ρ) (v.val ρ)).run P w= .ok () w'∧CS P w ρ hp S j ck w':=by
 unfold zZ at h;split at h
 ·rename_i b c;split at h
  ·rename_i j b' cs vs hf Ie;obtain⟨hj,dH⟩:=dD hf;simp only [Ck.s5,beq_iff_eq]at dH;subst dH;obtain⟨e1,e2⟩:=jL ρ Ie iz;split at h
   ·rename_i hlen;rw [aus]at h;obtain⟨ra,ag7,rfl⟩:=h;refine⟨rfl,j,_,rfl,?_⟩;have hS:=db j (by simp) _ hj;obtain⟨h1,h2⟩:=mL ρ ag7;obtain⟨h3,h4⟩:=pw (P:=P) hS c h2 e2;refine⟨_,rH dc _ _ _ e1 (by rw [bu];exact hlen) h3,⟨⟨_,hj,rfl⟩,rfl,iM _ _ _ _,iL _ _ _ _,?_,?_⟩⟩
    ·intro k hk;exact gT _ _ _ _ _ (fun e=>hk ((hS.1 k).2 e))
    ·simp only [Ck.den,h1];exact h4
   ·cases h
  ·cases h
 ·rename_i b i s c;split at h
  ·rename_i j b' cs k e hf Ie;obtain⟨hj,dH⟩:=dD hf;simp only [Ck.s5,beq_iff_eq]at dH;subst dH;obtain⟨e1,e2⟩:=jL ρ Ie iz;split at h
   ·rename_i hc;obtain⟨rfl,gx⟩:=hc;split at h
    ·rename_i pre k' n a post YG;split at h
     ·rename_i hk;subst hk;simp only [auq]at h;subst h;refine⟨rfl,j,_,rfl,?_⟩;have hS:=db j (by simp) _ hj;obtain⟨h1,h2⟩:=xV (ρ:=ρ) YG;obtain⟨OY,OZ⟩:=dL ρ cd;simp only [E.den]at OZ;have cF:(i.den ρ 0).toNat<n:=by omega
      have hvl:(SV.ao ρ [SV.int k e])=[.int k (e.den ρ 0)]:=rfl;rw [hvl]at e1 e2;have eV:c+(i.den ρ 0).toNat+1≤(SV.ao ρ cs).length:=by rw [h1];simp [aE];omega
      obtain⟨h3,h4⟩:=pw (P:=P) (vs:=[.int k (e.den ρ 0)]) hS (c+(i.den ρ 0).toNat) (by simpa using eV) e2;refine⟨_,by rw [show SV.val ρ (.qX b i 1 c)= .pointer (some ⟨ρ.bv.getD b 0,c+(i.den ρ 0).toNat,none⟩) by simp [SV.val,Nat.add_comm]];exact rH dc _ _ _ e1 (by simpa using gx.symm) h3,
       ⟨⟨_,hj,rfl⟩,rfl,iM _ _ _ _,iL _ _ _ _,?_,?_⟩⟩
      ·intro k' kY;exact gT _ _ _ _ _ (fun e=>kY ((hS.1 k').2 e))
      ·simp only [Ck.den];have:SV.ao ρ (pre++ .dg k n (.nm a i e)::post)=(SV.ao ρ cs).take (c+(i.den ρ 0).toNat)++[.int k (e.den ρ 0)]++(SV.ao ρ cs).drop (c+(i.den ρ 0).toNat+1):=by
        rw [iK,h1];simp only [SV.ao,SV.cells];have hlp:(SV.ao ρ pre).length=c:=h2;generalize SV.ao ρ pre=A at hlp ⊢;generalize SV.ao ρ post=B;rw [List.append_assoc A,List.take_append,List.take_of_length_le (l:=A) (by omega),hlp,show c+(i.den ρ 0).toNat - c=(i.den ρ 0).toNat by omega,
         List.drop_append,List.drop_of_length_le (l:=A) (by omega),hlp,show c+(i.den ρ 0).toNat+1 - c=(i.den ρ 0).toNat+1 by omega,
         List.take_append_of_le_length (by rw [aE];omega),List.drop_append_of_le_length (by rw [aE];omega),List.nil_append]
        simp only [List.append_assoc];congr 1;apply List.ext_getElem?;intro m;by_cases hm:m<n
        ·rw [auu (by rw [aE];exact hm),bF,if_pos hm];simp only [E.den];rcases Nat.lt_trichotomy m (i.den ρ 0).toNat with ag9 | heq | hgt
         ·rw [if_neg (by omega),auu (by simp [aE];omega),List.getElem?_take_of_lt ag9,bF,if_pos hm]
         ·subst heq;rw [if_pos rfl,auv (by simp [aE];omega)];simp [aE,Nat.min_eq_left (Nat.le_of_lt hm)]
         ·rw [if_neg (by omega),auv (by simp [aE];omega)];simp only [List.length_take,aE,Nat.min_eq_left (Nat.le_of_lt cF)];obtain⟨d,rfl⟩: ∃d,m=(i.den ρ 0).toNat+1+d:=⟨m - (i.den ρ 0).toNat - 1,by omega⟩;rw [show(i.den ρ 0).toNat+1+d - (i.den ρ 0).toNat=d+1 by omega,List.singleton_append,List.getElem?_cons_succ,auu (by simp [aE];omega),
           List.getElem?_drop,bF,if_pos (by omega)]
        ·rw [auv (by rw [aE];omega),aE,auv (by simp [aE];omega)];simp only [List.length_take,aE,Nat.min_eq_left (Nat.le_of_lt cF)];obtain⟨d,rfl⟩: ∃d,m=n+d:=⟨m - n,by omega⟩;rw [show n+d - (i.den ρ 0).toNat=(n - (i.den ρ 0).toNat - 1)+d+1 by omega,List.singleton_append,List.getElem?_cons_succ,
          auv (by simp [aE];omega)]
         congr 1;simp [aE];omega
       rw [this];exact h4
     ·cases h
    ·cases h
   ·cases h
  ·cases h
 ·rename_i xv i s c;split at h
  ·rename_i j v' t s' n aA vs hf Ie;obtain⟨hj,dH⟩:=cZ hf;simp only [Ck.mI,beq_iff_eq]at dH;subst dH;obtain⟨e1,e2⟩:=jL ρ Ie iz;split at h
   ·rename_i hc;obtain⟨rfl,hs,t_,hlen⟩:=hc;rw [aus]at h;obtain⟨aS,fu,rfl⟩:=h;refine⟨rfl,j,_,rfl,?_⟩;have hS:=db j (by simp) _ hj;obtain⟨OY,OZ⟩:=dL ρ cd;have cF:(i.den ρ 0).toNat<(n.den ρ 0).toNat:=by omega
    obtain⟨p1,p2,p3,p4⟩:=tq ρ fu;have lY:=Uw s (fun(i:Nat)=>rowAt ρ aA i) (fun(i:Nat)=>rowAt ρ aS i) (fun i=>by rw [dQ];exact hs.symm) (fun i=>by rw [dQ,p1];exact hs.symm)
     (n.den ρ 0).toNat (i.den ρ 0).toNat c (SV.ao ρ vs) cF (by rw [hs];exact p2) p3 p4
    have hvl:(SV.ao ρ vs).length=ti.size:=by rw [bu];exact hlen
    have hbound:(i.den ρ 0).toNat*s+c+(SV.ao ρ vs).length≤(aG ρ (n.den ρ 0).toNat aA).length:=by
     rw [eh,←hs];have:=Nat.mul_le_mul_right s (Nat.succ_le_of_lt cF);rw [Nat.succ_mul]at this;omega
    obtain⟨g,o,w',g1,g2,g3,g4,g5,g6,g7⟩:=CR (P:=P) hS _ hbound (by omega) e2;refine⟨w',?_,⟨⟨_,hj,rfl⟩,rfl,g4,g5,?_,?_⟩⟩
    ·rw [show SV.val ρ (.pv xv i s c)=fS (ρ.vv.getD xv V1.nil).v ((i.den ρ 0).toNat*s+c)from rfl,g1];exact rH dc _ _ _ e1 hvl g3
    ·intro k hk;exact g6 k (fun e=>hk (e▸g2))
    ·simp only [Ck.den];rw [show aG ρ (n.den ρ 0).toNat aS=(List.range (n.den ρ 0).toNat).flatMap fun i=>rowAt ρ aS i from rfl,lY];exact g7
   ·cases h
  ·cases h
 ·cases h
end
def hG:List Value→List iY→Prop
 | [],[]=>True
 | .int q _::r,some q'::l=>q=q'∧hG r l
 | .bool _::r,none::l=>hG r l
 | _,_=>False
def ue:List Value→List Value→Bool
 | [],[]=>true
 | .int _ a::r,.int _ b::s=>a==b&&ue r s
 | .bool a::r,.bool b::s=>a==b&&ue r s
 | _,_=>false
theorem fY: ∀{xs:List Value} {l:List iY},hG xs l→xs.length=l.length
 | [],[],_=>rfl
 | x::r,[],h=>by cases x<;>simp [hG]at h
 | [],k::l,h=>by simp [hG]at h
 | x::r,k::l,h=>by
  have:hG r l:=by cases x<;>cases k<;>simp_all [hG]
  simp [fY this]
theorem fZ: ∀{l1:List iY} {xs:List Value} {l2:List iY},hG xs (l1++l2)→hG (xs.take l1.length) l1∧hG (xs.drop l1.length) l2
 | [],xs,l2,h=>by simpa [hG] using h
 | k::l1,[],l2,h=>by simp [hG]at h
 | k::l1,x::r,l2,h=>by
  simp only [List.cons_append,List.length_cons,List.take_succ_cons,List.drop_succ_cons]at h ⊢;cases x<;>cases k<;>simp only [hG]at h ⊢
  ·exact fZ h
  ·exact⟨⟨h.1,(fZ h.2).1⟩,(fZ h.2).2⟩
theorem p5: ∀{l:List iY} {a c b d:List Value},hG a l→hG c l→ue (a++b) (c++d)=(ue a c&&ue b d)
 | [],a,c,b,d,ha,hc=>by
  have h1:=fY ha;have h2:=fY hc;have:a=[]:=auH h1;have:c=[]:=auH h2
  subst_vars
  simp [ue]
 | k::l,[],c,b,d,ha,hc=>by simp [hG]at ha
 | k::l,x::a,[],b,d,ha,hc=>by simp [hG]at hc
 | k::l,x::a,y::c,b,d,ha,hc=>by
  cases x<;>cases k<;>simp only [hG]at ha<;>cases y<;>simp only [hG]at hc
  ·simp only [List.cons_append,ue,p5 ha hc,Bool.and_assoc]
  ·simp only [List.cons_append,ue,p5 ha.2 hc.2,Bool.and_assoc]
def Ft(P:Program)(t:TypeId)(cs:List Value)(x:Value):Prop:=
 match P.underlying t with
 | some (.struct _)=>x= .agg cs.toArray
 | some (.array _ _)=>x= .agg cs.toArray
 | _=>cs=[x]
section
variable {P:Program}
theorem jw(w:World){d:Nat}{t:TypeId}{l:List iY}(hl:gI P d t=some l)(hs:P.cellsOf t=l.length)(cs:List Value)(off:Nat)
  (hf:hG ((cs.drop off).take l.length) l): ∃x,(part t cs.toArray off).run P w= .ok x w∧Ft P t ((cs.drop off).take l.length) x:=by
 have FV: ∃i,P.info? t=some i∧i.size=l.length:=by
  cases d with
  | zero=>simp [gI]at hl
  | succ d=>
   cases hi:P.info? t with
   | none=>simp [gI,Program.underlying,hi]at hl
   | some i=>exact⟨i,rfl,by simpa [Program.cellsOf,hi] using hs⟩
 obtain⟨i,hi,gx⟩:=FV;have YH:(sizeOf t).run P w= .ok l.length w:=by simp [sizeOf,typeInfo,hi,gx]
 cases d with
 | zero=>simp [gI]at hl
 | succ d=>
  unfold gI at hl;cases hu:P.underlying t with
  | none=>simp [hu]at hl
  | some td=>
   have xW:=run_underlying hu w;rw [hu]at hl;cases td with
   | int k=>
    simp only [auq]at hl;subst hl;have hlen:=fY hf;simp only [List.length_cons,List.length_nil]at hlen hf;cases hc:cs[off]? with
    | none=>
     rw [List.getElem?_eq_none_iff]at hc;rw [List.drop_of_length_le hc]at hlen;simp at hlen
    | some x=>
     refine⟨x,by simp [part,isAgg,xW,hc],?_⟩;simp only [Ft,hu];have:off<cs.length:=(aup.1 hc).1;rw [List.drop_eq_getElem_cons this];simp [(aup.1 hc).2]
   | bool=>
    simp only [auq]at hl;subst hl;have hlen:=fY hf;simp only [List.length_cons,List.length_nil]at hlen hf;cases hc:cs[off]? with
    | none=>
     rw [List.getElem?_eq_none_iff]at hc;rw [List.drop_of_length_le hc]at hlen;simp at hlen
    | some x=>
     refine⟨x,by simp [part,isAgg,xW,hc],?_⟩;simp only [Ft,hu];have:off<cs.length:=(aup.1 hc).1;rw [List.drop_eq_getElem_cons this];simp [(aup.1 hc).2]
   | array n e=>
    refine⟨_,by simp [part,isAgg,xW,YH];rfl,?_⟩;simp only [Ft,hu]
   | struct fs=>
    refine⟨_,by simp [part,isAgg,xW,YH];rfl,?_⟩;simp only [Ft,hu]
   | _=>simp at hl
def EqL(P:Program)(dd:Nat)(t:TypeId)(l:List iY):Prop:=
 ∀(w:World) (xs ys:List Value) (x y:Value),hG xs l→hG ys l→Ft P t xs x→Ft P t ys y→(auW dd t x y).run P w= .ok (ue xs ys) w
theorem qI(w:World)(dd:Nat){d:Nat}{e:TypeId}{l:List iY}(hl:gI P d e=some l)(hs:P.cellsOf e=l.length)(IH:EqL P dd e l)(xs ys:List Value):
  ∀(m k:Nat),hG (xs.drop (k*l.length)) (List.replicate m l).flatten→hG (ys.drop (k*l.length)) (List.replicate m l).flatten→
   (Op.eqItems dd e (P.cellsOf e) xs.toArray ys.toArray (List.range' k m)).run P w= .ok (ue (xs.drop (k*l.length)) (ys.drop (k*l.length))) w
 | 0,k,hx,hy=>by
  have h1:xs.drop (k*l.length)=[]:=auH (by simpa using fY hx);have h2:ys.drop (k*l.length)=[]:=auH (by simpa using fY hy);rw [h1,h2];simp [Op.eqItems,ue]
 | m+1,k,hx,hy=>by
  rw [List.replicate_succ,List.flatten_cons]at hx hy;obtain⟨Mx,hx2⟩:=fZ hx;obtain⟨Uy,XE⟩:=fZ hy;rw [List.drop_drop]at hx2 XE;obtain⟨a,pa,va⟩:=jw w hl hs xs (k*l.length) Mx;obtain⟨b,pb,vb⟩:=jw w hl hs ys (k*l.length) Uy;have hab:=IH w _ _ a b Mx Uy va vb;have ih:=qI w dd hl hs IH xs ys m (k+1) (by rw [Nat.add_mul,Nat.one_mul];exact hx2) (by rw [Nat.add_mul,Nat.one_mul];exact XE);rw [Nat.add_mul,Nat.one_mul]at ih;have IG:ue (xs.drop (k*l.length)) (ys.drop (k*l.length))=
    (ue ((xs.drop (k*l.length)).take l.length) ((ys.drop (k*l.length)).take l.length)&&ue (xs.drop (k*l.length+l.length)) (ys.drop (k*l.length+l.length))):=by
   rw [←p5 Mx Uy,←List.drop_drop,←List.drop_drop,List.take_append_drop,List.take_append_drop]
  rw [List.range'_succ];simp only [Op.eqItems,auC,hs,pa,pb,hab,aut];rw [hs]at ih;rw [IG];cases ue ((xs.drop (k*l.length)).take l.length) ((ys.drop (k*l.length)).take l.length)
  ·simp
  ·simpa using ih
theorem px(w:World)(dd:Nat)(f:TypeId→Option (List iY))(d:Nat)(XF: ∀t,f t=gI P d t)(IH: ∀t l,gI P d t=some l→EqL P dd t l)(xs ys:List Value):
  ∀(fs:List Field) (off:Nat) (L:List iY),lC P f fs off=some L→hG (xs.drop off) L→hG (ys.drop off) L→
   (Op.eqFields dd xs.toArray ys.toArray fs).run P w= .ok (ue (xs.drop off) (ys.drop off)) w
 | [],off,L,h,hx,hy=>by
  simp only [lC,auq]at h;subst h;have h1:xs.drop off=[]:=auH (by simpa using fY hx);have h2:ys.drop off=[]:=auH (by simpa using fY hy);rw [h1,h2];simp [Op.eqFields,ue]
 | fd::fs,off,L,h,hx,hy=>by
  unfold lC at h;split at h
  ·cases h
  ·rename_i hn;simp only [Bool.or_eq_true,beq_iff_eq,bne_iff_ne,ne_eq,not_or,Decidable.not_not]at hn;obtain⟨hn,rfl⟩:=hn;split at h
   ·rename_i l hl;split at h
    ·rename_i hs;rw [aus]at h;obtain⟨L',YI,rfl⟩:=h;rw [XF]at hl;have lP:P.cellsOf fd.type=l.length:=by simpa using hs
     obtain⟨Mx,hx2⟩:=fZ hx;obtain⟨Uy,XE⟩:=fZ hy;rw [List.drop_drop]at hx2 XE;obtain⟨a,pa,va⟩:=jw w hl lP xs fd.offset Mx;obtain⟨b,pb,vb⟩:=jw w hl lP ys fd.offset Uy;have hab:=IH _ _ hl w _ _ a b Mx Uy va vb;have ih:=px w dd f d XF IH xs ys fs (fd.offset+l.length) L' YI hx2 XE;have IG:ue (xs.drop fd.offset) (ys.drop fd.offset)=
       (ue ((xs.drop fd.offset).take l.length) ((ys.drop fd.offset).take l.length)&&ue (xs.drop (fd.offset+l.length)) (ys.drop (fd.offset+l.length))):=by
      rw [←p5 Mx Uy,←List.drop_drop,←List.drop_drop,List.take_append_drop,List.take_append_drop]
     simp only [Op.eqFields,hn,ne_eq,not_false_eq_true,if_true,auC,pa,pb,hab,aut];rw [IG];cases ue ((xs.drop fd.offset).take l.length) ((ys.drop fd.offset).take l.length)
     ·simp
     ·simpa using ih
    ·cases h
   ·cases h
theorem oe(k:Nat): ∀(d:Nat) (t:TypeId) (L:List iY),gI P d t=some L→EqL P (k+d) t L
 | 0,t,L,h=>by simp [gI]at h
 | d+1,t,L,h=>by
  intro w xs ys x y hx hy vx vy;unfold gI at h;cases hu:P.underlying t with
  | none=>simp [hu]at h
  | some td=>
   rw [hu]at h;simp only [Ft,hu]at vx vy;cases td with
   | int q=>
    simp only [auq]at h;subst h vx vy;cases x<;>simp only [hG]at hx
    cases y<;>simp only [hG]at hy
    obtain⟨rfl,_⟩:=hx;obtain⟨rfl,_⟩:=hy;rw [show k+(d+1)=(k+d)+1 from rfl,run_equalIn_int w _ t _ _ _ _ hu];simp [ue]
   | bool=>
    simp only [auq]at h;subst h vx vy;cases x<;>simp only [hG]at hx
    cases y<;>simp only [hG]at hy
    rw [show k+(d+1)=(k+d)+1 from rfl,run_equalIn_bool' w _ t _ _ hu];simp [ue]
   | array n e=>
    simp only at h vx vy;subst vx vy;split at h
    ·rename_i l hl;split at h
     ·rename_i hs;simp only [auq]at h;subst h;have lP:P.cellsOf e=l.length:=by simpa using hs
      have FV: ∃i,P.info? e=some i:=by
       cases d with
       | zero=>simp [gI]at hl
       | succ d=>
        cases hi:P.info? e with
        | none=>simp [gI,Program.underlying,hi]at hl
        | some i=>exact⟨i,rfl⟩
      obtain⟨i,hi⟩:=FV;rw [show k+(d+1)=(k+d)+1 from rfl,run_equalIn_array w (k+d) _ _ hu hi,List.range_eq_range'];have:=qI w (k+d) hl lP (oe k d e l hl) xs ys n 0 (by simpa using hx) (by simpa using hy);simpa using this
     ·cases h
    ·cases h
   | struct fs=>
    simp only at h vx vy;subst vx vy;split at h
    ·cases h
    ·rename_i qH;have hfs:P.fieldsOf t=fs:=by simp [Program.fieldsOf,hu]
     rw [show k+(d+1)=(k+d)+1 from rfl,run_equalIn_struct w (k+d) t _ _ (by rw [hfs];exact hu) (by simpa using qH),hfs];have:=px w (k+d) (gI P d) d (fun _=>rfl) (oe k d) xs ys fs.toList 0 L h (by simpa using hx) (by simpa using hy);simpa using this
   | _=>simp at h
end
end Go.RX
