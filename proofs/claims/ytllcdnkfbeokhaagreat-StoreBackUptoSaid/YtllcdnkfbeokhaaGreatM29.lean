/- Arguments of nested structs and slices. -/
import Derived.Test.YtllcdnkfbeokhaaGreatRows
import Derived.Test.YtllcdnkfbeokhaaGreatM28
open Bool renaming and_eq_true → ai
open Go.Proofs.Tryz renaming prog → auN
open Int renaming toNat → ag
open List renaming getD_eq_getElem?_getD → auO, getElem?_append_left → auu, getElem?_append_right → auv, getElem?_eq_getElem → auU, getElem?_eq_none → au0, getElem?_eq_some_iff → aup, length_append → aum, length_map → auJ, map_cons → auK, mem_map → auL, mem_range → auG, sum_cons → au7
open Nat renaming blt → auS, blt_eq → auF
open Option renaming map_eq_some_iff → aus
open Option.some renaming injEq → auq
namespace Go.RX.Vb
open Go Go.RX Go.Proofs
open Go.ChangeShapes Go.WideShapes Go.ChangeAt Go.RowKit
open Go.Proofs.YtllcdnkfbeokhaaGreat (Rows.uptoBulk Rows.uptoBulkAll)
open Go.Proofs.YtllcdnkfbeokhaaGreat
theorem GL{H:Type}(d:DataW H):1≤Rows.uptoBulk d:=by
 cases d with
 | lit l=>cases l<;>simp [Rows.uptoBulk]
 | nil=>simp [Rows.uptoBulk]
 | ptr d=>simp [Rows.uptoBulk]
 | slice elems spare=>simp [Rows.uptoBulk]
 | agg parts=>simp [Rows.uptoBulk]
 | iface t d=>simp [Rows.uptoBulk]
 | map entries=>simp [Rows.uptoBulk]
 | held h=>simp [Rows.uptoBulk]
theorem GM{H:Type}: ∀l:List (DataW H),l.length≤Rows.uptoBulkAll l
 | []=>by simp
 | d::l=>by
  have h1:=GL d;have h2:=GM l;simp only [Rows.uptoBulkAll,List.length_cons];omega
theorem KS{H:Type}{α:Type}(f:α→Nat): ∀(l:List α) (m:List (DataW H)),l.length=m.length→(∀(i:Nat) a d,l[i]? =some a→m[i]? =some d→f a≤Rows.uptoBulk d)→(l.map f).sum≤Rows.uptoBulkAll m
 | [],m,_,_=>by simp
 | a::l,[],h,_=>by cases h
 | a::l,d::m,h,hf=>by
  have h1:=hf 0 a d rfl rfl;have h2:=KS f l m (by simpa using h) fun i a' d' ha hd=>hf (i+1) a' d' ha hd
  simp only [auK,au7,Rows.uptoBulkAll];omega
structure qZ (w:World) (t:TypeId) (α:Type) where
 cells:α→List Value
 ok:α→Prop
 bw:α→Nat
 size:Nat
 eZ:Tryz.prog.cellsOf t=size
 len: ∀a,ok a→(cells a).length=size
 op: ∀{H:Type} {enc:TypeId×Value→H} {fuel:Nat} {cs:List Value} {x:DataW H×List MemPlace},DataW.trod enc auN w 0 (fun _=>true) true fuel t cs=some x→∃a,cs=cells a∧ok a∧bw a≤Rows.uptoBulk x.1
variable {w:World}
noncomputable def Zc{t:TypeId}(k:IntKind)(ht:Tryz.prog.underlying t=some (.int k))(hc:Tryz.prog.cellsOf t=1):qZ w t Int where
 cells z:=[.int k z]
 ok z:=(Lit.int k z).wf=true
 bw _:=1
 size:=1
 eZ:=hc
 len _ _:=rfl
 op h:=by
  obtain⟨z,rfl,rfl,hz⟩:=DataW.trod_int ht h;exact⟨z,rfl,hz,Nat.le_refl _⟩
noncomputable def Zd{t:TypeId}(k:IntKind)(b:Nat)(ht:Tryz.prog.underlying t=some (.int k))(hc:Tryz.prog.cellsOf t=1)(hk:k.min=0∧k.max+1=((256^b:Nat):Int)):qZ w t Nat where
 cells n:=[.int k (n:Int)]
 ok n:=n<256^b
 bw _:=1
 size:=1
 eZ:=hc
 len _ _:=rfl
 op h:=by
  obtain⟨z,rfl,rfl,hz⟩:=DataW.trod_int ht h;simp only [Lit.wf,ai,decide_eq_true_eq]at hz;refine⟨z.toNat,?_,?_,Nat.le_refl _⟩
  ·rw [Int.toNat_of_nonneg (by omega)]
  ·omega
noncomputable def U_{t:TypeId}(ht:Tryz.prog.underlying t=some .bool)(hc:Tryz.prog.cellsOf t=1):qZ w t Bool where
 cells b:=[.bool b]
 ok _:=True
 bw _:=1
 size:=1
 eZ:=hc
 len _ _:=rfl
 op h:=by
  obtain⟨b,rfl,rfl⟩:=DataW.trod_bool ht h;exact⟨b,rfl,trivial,Nat.le_refl _⟩
theorem Nt{n:Nat}{cs:List Value}{l:List Nat}(hc:cs.length=n)(hl:l.length=n)(h: ∀(i:Nat) (_:i<n),cs[i]? =some (.int .u8 ((l.getD i 0:Nat):Int))):cs=aj .u8 n (aI l):=by
 refine List.ext_getElem? fun i=>?_
 by_cases hi:i<n
 ·rw [h i hi,aj,List.getElem?_map,List.getElem?_range hi];rfl
 ·rw [au0 (by omega),au0 (by simp [aj];omega)]
noncomputable def AH{t:TypeId}(n:Nat)(ht:Tryz.prog.underlying t=some (.array n 5))(hc:Tryz.prog.cellsOf t=n):qZ w t (List Nat) where
 cells l:=aj .u8 n (aI l)
 ok l:=l.length=n∧∀x∈l,x<256
 bw _:=n+1
 size:=n
 eZ:=hc
 len _ _:=by simp [aj]
 op {H enc fuel cs x} h:=by
  obtain⟨xs,m,_,rfl,hl,hxl,hf⟩:=DataW.trod_array ht h;rw [hc]at hl;have c5:Tryz.prog.cellsOf 5=1:=by kernel_rfl
  have key: ∀i,∃c:Nat,i<n→(c<256∧∃ra:Value,True∧ra= .int .u8 (c:Int)∧(List.drop (i*1) cs)[0]? =some ra):=by
   intro i;by_cases hi:i<n
   ·have h1:=hf i hi;rw [c5,auU (by omega:i<xs.length)]at h1;obtain⟨z,hz,_,hw⟩:=DataW.trod_int Tryz.underlying5 h1;simp only [Lit.wf,ai,decide_eq_true_eq,show IntKind.u8.min=0 by decide,show IntKind.u8.max=255 by decide]at hw;refine⟨z.toNat,fun _=>⟨by omega,.int .u8 z,trivial,by rw [Int.toNat_of_nonneg (by omega)],?_⟩⟩;have:=congrArg (fun l=>l[0]?) hz;simpa using this
   ·exact⟨0,fun h=>absurd h hi⟩
  obtain⟨C,hC⟩:=Classical.axiomOfChoice key;refine⟨(List.range n).map C,Nt hl (by simp) fun i hi=>?_,⟨by simp,fun x hx=>?_⟩,?_⟩
  ·obtain⟨_,v,_,rfl,hv⟩:=hC i hi;rw [Nat.mul_one,List.getElem?_drop,Nat.add_zero]at hv;have e:((List.range n).map C).getD i 0=C i:=by
    rw [auO,List.getElem?_map,List.getElem?_range hi];rfl
   rw [hv,e]
  ·obtain⟨i,hi,rfl⟩:=auL.1 hx;exact(hC i (auG.1 hi)).1
  ·simp only [Rows.uptoBulk];have:=GM (xs.map (·.1));rw [auJ,hxl]at this;exact Nat.succ_le_succ this
def GN(w:World)(h:HP):Prop:= ∃S:Nat→Prop,h.p w S∧∀k,S k→k<w.heap.size
theorem XT(f:Nat→List Value)(s:Nat): ∀n:Nat,(∀i,i<n→(f i).length=s)→((List.range n).flatMap f).length=n*s∧∀(m:Nat) u,((List.range n).flatMap f)[m]? =some u→∃i j,i<n∧m=i*s+j∧(f i)[j]? =some u
 | 0,_=>⟨by simp,fun m u h=>by simp at h⟩
 | n+1,hf=>by
  obtain⟨h1,h2⟩:=XT f s n fun i hi=>hf i (by omega)
  have e:(List.range (n+1)).flatMap f=(List.range n).flatMap f++f n:=by simp [List.range_succ,List.flatMap_append]
  rw [e];refine⟨by rw [aum,h1,hf n (by omega),Nat.succ_mul],fun m u h=>?_⟩;by_cases hm:m<((List.range n).flatMap f).length
  ·rw [auu hm]at h;obtain⟨i,j,q1,q2,q3⟩:=h2 m u h;exact⟨i,j,by omega,q2,q3⟩
  ·rw [auv (by omega)]at h;refine⟨n,_,by omega,?_,h⟩;rw [h1]at hm ⊢;omega
theorem AI{α:Type}(f:α→List Value)(l:List α)(d:α):l.flatMap f=(List.range l.length).flatMap fun i=>f (l.getD i d):=by
 conv=>lhs;rw [show l=(List.range l.length).map fun i=>l.getD i d from List.ext_getElem (by simp) fun i h1 h2=>by simp [auO,h1]]
 rw [List.flatMap_map]
theorem add_zero'(x:Addr):x.add 0=x:=by unfold Addr.add;rw [if_pos rfl]
theorem Q8(x:Addr)(i j:Nat):(x.add i).add j=x.add (i+j):=by
 unfold Addr.add;by_cases hi:i=0
 ·subst hi;simp
 ·by_cases hj:j=0
  ·subst hj;simp [hi]
  ·simp [hi,hj,Nat.add_assoc]
theorem Va(t s:Nat):GN w (aB false t s (.slice none 0 0) 0 []):=by
 refine⟨fun _=>False,⟨?_,fun k=>by simp [Value.ownBlock]⟩,fun k h=>h.elim⟩;simp only [Bool.false_eq_true,if_false];exact⟨by simp,none,0,0,rfl,rfl,Nat.le_refl _,fun _=>rfl,fun _ h=>(nomatch h)⟩
theorem Ze{α:Type}(f:α→List Value)(t s:Nat)(hs:0<s)(a:Addr)(cap:Nat)(l:List α)(hf: ∀x∈l,(f x).length=s)(hl:l.length≤cap)
  (h: ∀(i:Nat) (x:α),l[i]? =some x→∀(j:Nat) u,(f x)[j]? =some u→w.cell? (a.add (i*s+j))=some u):GN w (aB false t s (.slice (some a) l.length cap) l.length (l.flatMap f)):=by
 cases l with
 | nil=>
  refine⟨fun k=>False,⟨?_,fun k=>by simp⟩,fun k h=>h.elim⟩;simp only [Bool.false_eq_true,if_false];exact⟨by simp,some a,0,cap,rfl,rfl,Nat.zero_le _,fun h=>(nomatch h),fun ad had=>⟨fun h0=>absurd h0 (by simp),fun m u hu=>by simp at hu⟩⟩
 | cons x0 l0=>
  obtain⟨l,yP⟩: ∃l,l=x0::l0:=⟨_,rfl⟩;rw [←yP]at hf hl h ⊢;have t_:0<l.length:=by rw [yP];simp
  rw [AI f l x0];have fG:=XT (fun i=>f (l.getD i x0)) s l.length fun i hi=>by
   refine hf _ ?_;rw [auO,auU hi];exact List.getElem_mem hi
  have dH: ∀i,i<l.length→∀(j:Nat) u,(f (l.getD i x0))[j]? =some u→w.cell? (a.add (i*s+j))=some u:=fun i hi j u hu=>by
   refine h i (l.getD i x0) ?_ j u hu;rw [auO,auU hi];rfl
  obtain⟨u0,hu0⟩: ∃u,(f (l.getD 0 x0))[0]? =some u:=⟨_,auU (by
   rw [hf _ (by rw [auO,auU t_];exact List.getElem_mem t_)];exact hs)⟩
  have h0:=dH 0 t_ 0 u0 hu0;rw [Nat.zero_mul,Nat.zero_add,add_zero']at h0;refine⟨fun k=>(Value.slice (some a) l.length cap).ownBlock=some k∧0<l.length,⟨?_,fun k=>by simp⟩,?_⟩
  ·simp only [Bool.false_eq_true,if_false];refine⟨fG.1,some a,l.length,cap,rfl,rfl,hl,fun h=>(nomatch h),fun ad had=>⟨fun _=>?_,fun m u hu=>?_⟩⟩
   ·cases had;exact World.cell?_spot h0
   ·cases had;obtain⟨i,j,q1,rfl,q3⟩:=fG.2 m u hu;exact dH i q1 j u q3
  ·rintro k ⟨hk,_⟩;simp only [Value.ownBlock,auq]at hk;subst hk;exact World.block_lt_of_cell? w _ h0
noncomputable def mg{t e:TypeId}{α:Type}(O:qZ w e α)(ht:Tryz.prog.underlying t=some (.slice e))(hc:Tryz.prog.cellsOf t=1)(hs:auS 0 O.size=true):qZ w t (V1×List α) where
 cells p:=[p.1.v]
 ok p:=(∀a∈p.2,O.ok a)∧GN w (aB false e O.size p.1.v p.2.length (p.2.flatMap O.cells))
 bw p:=(p.2.map O.bw).sum+1
 size:=1
 eZ:=hc
 len _ _:=rfl
 op h:=by
  rcases DataW.trod_slice ht h with⟨rfl,hx⟩ | ⟨a,len,cap,elems,rest,m,_,rfl,rfl,hb,hl,hm,hlen,hel,_,_⟩
  ·refine⟨(⟨.slice none 0 0,rfl⟩,[]),rfl,⟨fun a h=>(nomatch h),Va _ _⟩,?_⟩;simpa using GL _
  ·have key: ∀i,∃y:Option α,i<len→∃y0,y=some y0∧O.ok y0∧(∀d:DataW _×List MemPlace,elems[i]? =some d→O.bw y0≤Rows.uptoBulk d.1)∧∀(j:Nat) u,(O.cells y0)[j]? =some u→w.cell? (a.add (i*O.size+j))=some u:=by
    intro i;by_cases hi:i<len
    ·have h1:=hel i hi;have hg:elems[i]? =some (elems[i]'(by omega)):=auU (by omega);rw [hg,Option.bind_eq_some_iff]at h1;obtain⟨ra,nU,htr⟩:=h1;obtain⟨y0,rfl,iz,Kv⟩:=O.op htr;obtain⟨_,eV,dH⟩:=World.cells?_some nU;rw [O.eZ]at dH eV;refine⟨some y0,fun _=>⟨y0,rfl,iz,fun d hd=>?_,fun j u hu=>?_⟩⟩
     ·rw [hg]at hd;cases hd;exact Kv
     ·have hj:j<O.size:=by
       have:=(aup.1 hu).1
       rwa [O.len y0 iz]at this
      have:=dH j (by omega);rw [hu,Q8]at this;exact this
    ·exact⟨none,fun h=>absurd h hi⟩
   obtain⟨Y,hY⟩:=Classical.axiomOfChoice key;have hYl:((List.range len).filterMap Y).length=len∧∀i,i<len→((List.range len).filterMap Y)[i]? =Y i:=by
    have nW: ∀n,n≤len→((List.range n).filterMap Y).length=n∧∀i,i<n→((List.range n).filterMap Y)[i]? =Y i:=by
     intro n
     induction n with
     | zero=>exact fun _=>⟨rfl,fun i hi=>absurd hi (Nat.not_lt_zero i)⟩
     | succ n ih=>
      intro hn;obtain⟨i1,i2⟩:=ih (by omega);obtain⟨y0,Q9,_⟩:=hY n (by omega);have e:(List.range (n+1)).filterMap Y=(List.range n).filterMap Y++[y0]:=by
       rw [List.range_succ,List.filterMap_append];simp [Q9]
      rw [e];refine⟨by simp [i1],fun i hi=>?_⟩;by_cases OZ:i<n
      ·rw [auu (by omega)];exact i2 i OZ
      ·have:i=n:=by omega
       subst this;rw [auv (by omega),i1,Nat.sub_self,Q9];rfl
    exact nW len (Nat.le_refl _)
   obtain⟨IK,MC⟩:=hYl;obtain⟨l,hL⟩: ∃l,l=(List.range len).filterMap Y:=⟨_,rfl⟩;rw [←hL]at IK MC;subst IK;have rV: ∀(i:Nat) x,l[i]? =some x→i<l.length∧Y i=some x:=fun i x hx=>by
    have hi:=(aup.1 hx).1;exact⟨hi,by rw [←MC i hi];exact hx⟩
   have iz: ∀x∈l,O.ok x:=fun x hx=>by
    obtain⟨i,hi,rfl⟩:=List.mem_iff_getElem.1 hx;obtain⟨h1,h2⟩:=rV i _ (auU hi);obtain⟨y0,Q9,h3,_⟩:=hY i h1;rw [h2]at Q9;cases Q9;exact h3
   refine⟨(⟨.slice (some a) l.length cap,rfl⟩,l),rfl,⟨iz,?_⟩,?_⟩
   ·refine Ze O.cells e O.size (by rwa [auF]at hs) a cap l (fun x hx=>O.len x (iz x hx)) hl fun i x hx j u hu=>?_
    obtain⟨h1,h2⟩:=rV i x hx;obtain⟨y0,Q9,_,_,h4⟩:=hY i h1;rw [h2]at Q9;cases Q9;exact h4 j u hu
   ·have:=KS O.bw l (elems.map (·.1)) (by simp [hlen]) fun i x d hx hd=>by
     obtain⟨h1,h2⟩:=rV i x hx;obtain⟨y0,Q9,_,h3,_⟩:=hY i h1;rw [h2]at Q9;cases Q9;rw [List.getElem?_map,aus]at hd;obtain⟨d0,hd0,rfl⟩:=hd;exact h3 d0 hd0
    simp only [Rows.uptoBulk];omega
noncomputable def Fits{H:Type}(enc:TypeId×Value→H)(w:World)(n:Nat)(cs:List Value):Nat→List TypeId→List (DataW H×List MemPlace)→Prop
 | o,[],[]=>cs.length=o
 | o,t::ts,y::ys=>DataW.trod enc auN w 0 (fun _=>true) true n t ((cs.drop o).take (Tryz.prog.cellsOf t))=some y∧Fits enc w n cs (o+Tryz.prog.cellsOf t) ts ys
 | _,_,_=>False
structure Vf (w:World) (ts:List TypeId) (α:Type) where
 cells:α→List Value
 ok:α→Prop
 bw:α→Nat
 size:Nat
 eZ:(ts.map Tryz.prog.cellsOf).sum=size
 len: ∀a,ok a→(cells a).length=size
 op: ∀{H:Type} {enc:TypeId×Value→H} {n o:Nat} {cs:List Value} {ys:List (DataW H×List MemPlace)},Fits enc w n cs o ts ys→∃a,cs.drop o=cells a∧ok a∧bw a≤Rows.uptoBulkAll (ys.map (·.1))
noncomputable def lM:Vf w [] Unit where
 cells _:=[]
 ok _:=True
 bw _:=0
 size:=0
 eZ:=rfl
 len _ _:=rfl
 op {H enc n o cs ys} h:=by
  cases ys with
  | nil=>exact⟨(),List.drop_eq_nil_of_le (by rw [show cs.length=o from h];exact Nat.le_refl _),trivial,Nat.zero_le _⟩
  | cons y ys=>exact h.elim
noncomputable def aY{t:TypeId}{ts:List TypeId}{α β:Type}(O:qZ w t α)(F:Vf w ts β):Vf w (t::ts) (α×β) where
 cells p:=O.cells p.1++F.cells p.2
 ok p:=O.ok p.1∧F.ok p.2
 bw p:=O.bw p.1+F.bw p.2
 size:=O.size+F.size
 eZ:=by rw [auK,au7,O.eZ,F.eZ]
 len p h:=by rw [aum,O.len _ h.1,F.len _ h.2]
 op {H enc n o cs ys} h:=by
  cases ys with
  | nil=>exact h.elim
  | cons y ys=>
   obtain⟨h1,h2⟩:=h;obtain⟨a,ha,iz,hb⟩:=O.op h1;obtain⟨b,zl,DO,Zf⟩:=F.op h2;refine⟨(a,b),?_,⟨iz,DO⟩,?_⟩
   ·rw [←ha,←zl,←List.drop_drop,List.take_append_drop]
   ·simp only [auK,Rows.uptoBulkAll];omega
noncomputable def Vg:Nat→List TypeId→List Nat
 | _,[]=>[]
 | o,t::ts=>o::Vg (o+Tryz.prog.cellsOf t) ts
theorem KT{H:Type}{enc:TypeId×Value→H}{n:Nat}{cs:List Value}: ∀(fs:List Field) (o:Nat) (xs:List (DataW H×List MemPlace)),xs.length=fs.length→
  (∀(i:Nat) (f:Field),fs[i]? =some f→DataW.trod enc auN w 0 (fun _=>true) true n f.type ((cs.drop f.offset).take (Tryz.prog.cellsOf f.type))=xs[i]?)→
  fs.map Field.offset=Vg o (fs.map Field.type)→cs.length=o+((fs.map Field.type).map Tryz.prog.cellsOf).sum→
  Fits enc w n cs o (fs.map Field.type) xs
 | [],o,[],_,_,_,hl=>by simpa [Fits] using hl
 | [],o,_::_,h,_,_,_=>by cases h
 | f::fs,o,[],h,_,_,_=>by cases h
 | f::fs,o,x::xs,h,hf,ho,hl=>by
  simp only [auK,Vg,List.cons.injEq]at ho;obtain⟨h1,h2⟩:=ho;refine⟨?_,?_⟩
  ·have:=hf 0 f rfl;rw [h1]at this;simpa using this
  ·refine KT fs _ xs (by simpa using h) (fun i g hg=>hf (i+1) g (by simpa using hg)) h2 ?_;rw [hl,auK,auK,au7,Nat.add_assoc]
noncomputable def fB{t:TypeId}{fs:Array Field}{α:Type}(ht:Tryz.prog.underlying t=some (.struct fs))(F:Vf w (fs.toList.map Field.type) α)(hc:Tryz.prog.cellsOf t=F.size)
  (ho:fs.toList.map Field.offset=Vg 0 (fs.toList.map Field.type)):qZ w t α where
 cells:=F.cells
 ok:=F.ok
 bw a:=F.bw a+1
 size:=F.size
 eZ:=hc
 len:=F.len
 op {H enc fuel cs x} h:=by
  obtain⟨xs,n,_,rfl,hl,hxl,hf⟩:=DataW.trod_struct ht h;have rM:Fits enc w n cs 0 (fs.toList.map Field.type) xs:=KT fs.toList 0 xs (by simpa using hxl) (fun i f hg=>hf i f (by simpa using hg)) ho (by rw [hl,hc,←F.eZ,Nat.zero_add]);obtain⟨a,h1,h2,h3⟩:=F.op rM;refine⟨a,by rwa [List.drop_zero]at h1,h2,?_⟩;simp only [Rows.uptoBulk];omega
open Go Go.RX Go.Proofs
abbrev Ed(a0:V1)(a1:Int)(a2 a3 a4:Nat→Int):HP:=aB false 245 65 a0.v (ag a1) (aM (ag a1) [ay .u8 32 a2,ay .u32 1 a3,ay .u8 32 a4])
abbrev Q_(a0:V1)(a1:Int)(a2 a3 a4 a5 a6 a7 a8 a9 Gp D8 Nd Nf Ng:Nat→Int)(Nh:Int)(Ni:V1)(Nj Nk Nl Nm QD Y0 Y1:Nat→Int):HP:=aB false 77 268 a0.v (ag a1) (aM (ag a1) [ay .u8 32 a2,ay .u8 32 a3,ay .u8 32 a4,ay .u8 32 a5,cY 1 a6,cY 1 a7,cY 1 a8,cY 1 a9,ay .u8 32 Gp,ay .u32 1 D8,ay .u8 32 Nd,ay .u32 1 Nf,ay .u32 1 Ng,eA 1 (fun j=>if j=(ag Nh)then Ni.v else cc (Nj j)),ay .u8 32 Nk,ay .u8 32 Nl,cY 1 Nm,ay .u32 1 QD,cY 1 Y0,cY 1 Y1])
end Go.RX.Vb

namespace Go.RX.Vn
open Go.RX Go.RX.Vb Go.RX.Vc Go.RX.Vd Go.RX.Ve
def ah4(i a v:Nat):List SV:=[key a,key (a+1),key (a+2),key (a+3),bl i,bl (i+1),bl (i+2),bl (i+3),key (a+4),u32 (i+4),key (a+5),u32 (i+5),u32 (i+6),.vv v]
def ah5:List SV:=[.agg (ah4 1 0 0)]
def adQ:List Ck:=[.cC false 0 245 65 (.var 0) (dV 6)]
def Zg:cG:={v:=1,i:=8,a:=9}
def Vh:aK:={use:=fun _ hp=>mB hp,inc:={i:=2},val:=fun c=> .oL [.jE (.var c.i),.int .i64 (.var (c.i+1))],new:=fun _ h=>h}
def ofA:List SV:=[.agg [u8 0,u8 1,.vv 0]]
def ah6:List Ck:=[.cC false 0 77 268 (.var 2) (Ve.bS 0),.abs 0]
def adR:cG:={v:=1,i:=3,a:=20,p:=1}
def br(f:Nat):Option aK:=if f=113 then some Vh else none
def Ra(a:Nat):List bP:=[⟨.ptr,1,.cU a⟩]
def Zh(c:cG):List Ck→List Ck
 | [x,y,r,.row b w _,.cC ..,.cC ..]=>[x,y,r,.row b w [.vv c.v,.vv (c.v+1),.jE (.var (c.i+1))],.cC true c.v 211 1 (.var (c.i+2)) (Ra c.a),.cC true (c.v+1) 211 1 (.var (c.i+3)) (Ra (c.a+1))]
 | h=>h
def loops(f id:Nat):Option ey:=
 match f,id with
 | 67,0=>some {pre:=[.cell 3 0 211,.cell 3 1 211],inc:={i:=4,v:=2,a:=2},aX:=fun c=>[(15,.int .i64 (.var c.i))],hp:=Zh}
 | _,_=>none
def Ee:aK:={use:=fun az hp=>match az with | [.vv v]=>(hp.findIdx? (jB v)).toList | _=>[],inc:={v:=1},val:=fun c=> .vv c.v,new:=fun _ h=>h}
def Vi:aK:={use:=fun _ hp=>mB hp,inc:={i:=1,bo:=1},val:=fun c=> .oL [.jE (.var c.i),.bool (.var c.bo)],new:=fun _ h=>h}
def Rb(f:Nat):Option aK:=
 match f with
 | 81=>some Ee
 | 67=>some Vi
 | _=>none
def ah7:List SV:=[.agg [u8 0,u8 1,key 0,key 1,.vv 0,i64 2,.vv 1]]
def adS:List Ck:=[.cC false 0 93 33 (.var 3) (dN 2),.cC false 1 68 3 (.var 4) (Vd.bM 4),.abs 0]
def Zi:cG:={v:=2,i:=5,a:=7,p:=1}
def XU(a:Nat):Ck→Ck
 | .map b kl ka va z _ _=> .map b kl ka va z (.cU a) (Ra (a+1))
 | c=>c
def Vj(c:cG)(h:List Ck):List Ck:=h.map (XU c.a)
def Zj(f id:Nat):Option ey:=
 match f,id with
 | 34,0=>some {inc:={i:=2,a:=2},aX:=fun c=>[(18,.int .i64 (.var c.i)),(5,.int .i64 (.var (c.i+1)))],hp:=Vj}
 | _,_=>none
end Go.RX.Vn

namespace Go.RX.Vb
open Go.RX Go.Proofs
noncomputable def cxN:Ctx:={T:=TT,FT:=FT,loops:=Vn.loops,br:=Vn.br}
noncomputable def ah9:Ctx:={T:=TT,FT:=FT,loops:=Vn.Zj,br:=Vn.Rb}
end Go.RX.Vb

namespace Go.RX.Vo
open Go.RX Go.RX.Vb Go.RX.Vc Go.RX.Vd Go.RX.Ve Go.RX.Vn
def KU(t s:Nat)(cs:Nat→List bP)(c:cG):List Ck→List Ck
 | x:: .row b w [_,m]:: .cC .. ::r=>x:: .row b w [.vv c.v,m]:: .cC true c.v t s (.var (c.i+1)) (cs c.a)::r
 | h=>h
def Vk(c:cG):List Ck→List Ck
 | x:: .row b w [a,_,m]:: .cC .. ::r=>x:: .row b w [a,.vv c.v,m]:: .cC true c.v 5 1 (.var (c.i+1)) (wH c.a)::r
 | h=>h
def loops(f id:Nat):Option ey:=
 match f,id with
 | 70,0=>some {pre:=[.cell 1 0 36],back:=[.qv 1 0 true],inc:={i:=2,v:=1,a:=1},aX:=fun c=>[(12,.int .i64 (.var c.i))],hp:=KU 36 16 idC}
 | 72,0=>some {pre:=[.cell 1 0 26],back:=[.qv 1 0 true],inc:={i:=2,v:=1,a:=2},aX:=fun c=>[(12,.int .i64 (.var c.i))],hp:=KU 26 2 Vd.gM}
 | 116,0=>some {pre:=[.cell 1 1 5],inc:={i:=2,v:=1,a:=1},aX:=fun c=>[(21,.int .i64 (.var c.i))],hp:=Vk}
 | 71,0=>some {inc:={i:=1},aX:=fun c=>[(33,.int .i64 (.var c.i))]}
 | 199,0=>some {inc:={i:=1},aX:=fun c=>[(8,.int .i64 (.var c.i))]}
 | 200,0=>some {inc:={i:=1},aX:=fun c=>[(8,.int .i64 (.var c.i))]}
 | _,_=>none
def ah_:List SV:=[.int .i64 (.lit 256),.vv 0]
def aia:List SV:=[.int .i64 (.lit 4),.vv 0]
def hpI:List Ck:=[.cC false 0 36 16 (.var 0) (idC 0)]
def hpD:List Ck:=[.cC false 0 26 2 (.var 0) (Vd.gM 0)]
def Nc:cG:={v:=1,i:=1,a:=2}
def aib:List SV:=[u8 0,.vv 0,i64 1]
def adT:List Ck:=[.cC false 0 5 1 (.var 2) (wH 0)]
def Zk:cG:={v:=1,i:=3,a:=1}
def Ee:aK:={use:=fun az hp=>match az with | [.vv v]=>(hp.findIdx? (jB v)).toList | _=>[],inc:={v:=1},val:=fun c=> .vv c.v,new:=fun _ h=>h}
def Rc(f:Nat):Option aK:=if f=117 then some Ee else none
def KV:aK:={use:=fun az hp=>match az with | [_,.vv v]=>(hp.findIdx? (jB v)).toList | _=>[],inc:={i:=1},val:=fun c=> .jE (.var c.i),new:=fun _ h=>h}
def Vl:aK:={use:=fun az hp=>match az with | [_,.vv v,_]=>(hp.findIdx? (jB v)).toList | _=>[],inc:={i:=2},val:=fun c=> .oL [.jE (.var c.i),.int .i64 (.var (c.i+1))],new:=fun _ h=>h}
def Rd(f:Nat):Option aK:=
 match f with
 | 70=>some KV
 | 72=>some KV
 | 71=>some Vl
 | _=>none
def jS(i a v:Nat):List SV:=[u8 i,u8 (i+1),sg 8 a,.vv v,u8 (i+2),sg 16 (a+1),bl (i+3),u8 (i+4),u8 (i+5),u8 (i+6),sg 32 (a+2),sg 32 (a+3),sg 32 (a+4),.vv (v+1),i64 (i+7),.vv (v+2),u64 (i+8),u64 (i+9),u64 (i+10),u64 (i+11),u64 (i+12),u32 (i+13)]
def aic:List SV:=[.agg (jS 0 0 0)]
def adU:List Ck:=[.cC false 0 36 16 (.var 14) (idC 5),.cC false 1 5 1 (.var 15) (wH 6),.cC false 2 26 2 (.var 16) (Vd.gM 7)]
def Zl:cG:={v:=3,i:=17,a:=9}
end Go.RX.Vo

namespace Go.RX.Vp
open Go.RX Go.RX.Vb Go.RX.Vc Go.RX.Vd Go.RX.Ve Go.RX.Vn Go.RX.Vo
def adV:List SV:=[.vv 0]
def XV:List Ck:=[.cC false 0 5 1 (.var 0) (wH 0)]
def Re:cG:={v:=1,i:=1,a:=1}
def Vm(az:List SV)(hp:List Ck):List Nat:=
 match az with
 | .vv v::_=>(hp.findIdx? (jB v)).toList
 | .jJ v _ _::_=>(hp.findIdx? (jB v)).toList
 | _=>[]
def aid(i a:Nat):SV:= .agg [sg 16 a,u8 i,bl (i+1),u8 (i+2),u64 (i+3),u64 (i+4),u64 (i+5)]
def Vu:aK:={use:=Vm,inc:={i:=7,a:=1},val:=fun c=> .oL [aid c.i c.a,.int .i64 (.var (c.i+6))],new:=fun _ h=>h}
def Rf(f:Nat):Option aK:=if f=75 then some Vu else none
def recC(a:Nat):List bP:=[⟨.int .u8,16,.cU a⟩,⟨.int .u8,1,.cU (a+1)⟩,⟨.bool,1,.cU (a+2)⟩,⟨.int .u8,1,.cU (a+3)⟩,⟨.int .u64,1,.cU (a+4)⟩,⟨.int .u64,1,.cU (a+5)⟩,⟨.int .u64,1,.cU (a+6)⟩]
def Zm(c:cG):Ck→Ck
 | .row 2 w [_,m]=> .row 2 w [.vv c.v,m]
 | .map b kl ka va z _ aA=> .map b kl ka va z (.cU c.a) aA
 | .cC true _ t s _ _=> .cC true c.v t s (.var (c.i+1)) (recC (c.a+1))
 | h=>h
def loops(f id:Nat):Option ey:=
 match f,id with
 | 121,0=>some {pre:=[.cell 3 0 188],inc:={i:=2,v:=1,a:=8},aX:=fun c=>[(4,.int .i64 (.var c.i))],hp:=fun c h=>h.map (Zm c)}
 | _,_=>none
end Go.RX.Vp

namespace Go.RX.Vb
open Go.RX Go.Proofs
noncomputable def cxO:Ctx:={T:=TT,FT:=FT,loops:=Vo.loops}
noncomputable def adW:Ctx:={T:=TT,FT:=FT,loops:=Vo.loops,br:=Vo.Rc}
noncomputable def aie:Ctx:={T:=TT,FT:=FT,loops:=Vo.loops,br:=Vo.Rd}
noncomputable def aif:Ctx:={T:=TT,FT:=FT,loops:=Vp.loops,br:=Vp.Rf}
end Go.RX.Vb

namespace Go.RX.Vq
open Go.RX Go.RX.Vb Go.RX.Vc Go.RX.Vd Go.RX.Ve Go.RX.Vn Go.RX.Vo Go.RX.Vp
def Zn(i a:Nat)(m:Nat):List SV:=[u8 i,u8 (i+1),.pf,sg 32 a,u64 (i+2),.jE (.var (i+3)),.jE (.var (i+4)),.jE (.var (i+5)),.mp m,sg 16 (a+1)]
def aih:List SV:=[.ptr 0 0,.agg [sg 16 2],u8 6,bl 7]
def adX:List Ck:=[.row 0 true (Zn 0 0 1),.map 1 (List.replicate 16 .u8) true false [.cu] (.cU 3) (Ra 4)]
def Zo:cG:={b:=2,i:=8,a:=5}
def qw(az:List SV)(hp:List Ck):List Nat:=
 match az with
 | [.agg cs]=>cs.filterMap fun c=>match c with
  | .vv v=>hp.findIdx? (jB v)
  | _=>none
 | _=>[]
def Vv:aK:={use:=fun az hp=>qw az hp++mB hp,inc:={i:=2},val:=fun c=> .oL [.jE (.var c.i),.int .i64 (.var (c.i+1))],new:=fun _ h=>h}
def Vy:aK:={use:=qw,inc:={i:=2},val:=fun c=> .oL [.jE (.var c.i),.int .i64 (.var (c.i+1))],new:=fun _ h=>h}
def VA:aK:={use:=fun az hp=>match az with | [.vv v]=>(hp.findIdx? (jB v)).toList | _=>[],inc:={i:=2},val:=fun c=> .oL [.jE (.var c.i),.int .i64 (.var (c.i+1))],new:=fun _ h=>h}
def Zp(az:List SV)(hp:List Ck):List Nat:=match az with
 | .ptr b _::_=>iU b hp++(match hp.findIdx? (rS b)with
  | some i=>match hp[i]? with
   | some (.row _ _ cs)=>cs.flatMap fun c=>match c with | .mp m=>(hp.findIdx? fun x=>x.isMap m).toList | _=>[]
   | _=>[]
  | none=>[])
 | _=>[]
def Zq(c:cG):List Ck→List Ck
 | [r,.map b kl ka va z _ _]=>[r,.map b kl ka va z (.cU c.a) (Ra (c.a+1)),.row c.b true [.jE (.var c.i),.jE (.var (c.i+1)),.bool (.lit false),.bool (.var c.bo),u8 (c.i+2),.int .u64 (.lit 0)]]
 | h=>h
def VB:aK:={use:=Zp,inc:={b:=1,i:=3,a:=2,bo:=1},val:=fun c=> .oL [.ptr c.b 0,.bool (.lit true)],new:=Zq}
def Zr(az:List SV)(hp:List Ck):List Nat:=
 match az with
 | [.PG v ..,.sl b ..]=>(hp.findIdx? (jB v)).toList++iU b hp
 | _=>[]
def VD:aK:={use:=Zr,inc:={i:=1},val:=fun c=> .int .i64 (.var c.i),new:=fun _ h=>h}
def br(f:Nat):Option aK:=
 match f with
 | 34=>some Vv
 | 35=>some Vy
 | 36=>some VA
 | 38=>some VB
 | 37=>some VD
 | _=>none
def VE(c:cG)(h:List Ck):List Ck:=h.map (XU c.a)
def loops(f id:Nat):Option ey:=
 match f,id with
 | 15,0=>some {inc:={i:=1,a:=2},aX:=fun c=>[(73,.int .i64 (.var c.i))],hp:=VE}
 | _,_=>none
def aii:List SV:=[.agg (Vd.TS 0 0 0),.pf]
def KW:List Ck:=Vd.stC false 18 8 0++[.abs 0]
def Ef:cG:={v:=7,i:=25,a:=22,p:=1}
def aij:List SV:=[.vv 0,.vv 1]
def adY:List Ck:=[.cC false 0 5 1 (.var 0) (wH 0),.cC false 1 5 1 (.var 1) (wH 1)]
def Zs:cG:={v:=2,i:=2,a:=2}
def Zt(f id:Nat):Option ey:=
 match f,id with
 | 37,0=>some {inc:={i:=1},aX:=fun c=>[(11,.int .i64 (.var c.i))]}
 | _,_=>none
def Zu(az:List SV)(hp:List Ck):List Nat:=
 (match az with
  | .agg cs::_=>qw [.agg cs] hp
  | _=>[])++mB hp
def VF:aK:={use:=Zu,inc:={i:=2},val:=fun c=> .oL [.jE (.var c.i),.int .i64 (.var (c.i+1))],new:=fun _ h=>h}
def Rg(f:Nat):Option aK:=if f=15 then some VF else none
def aik:List SV:=[.agg (Vd.TS 0 0 0)]
end Go.RX.Vq

namespace Go.RX.Vr
open Go.RX Go.RX.Vb Go.RX.Vc Go.RX.Vd Go.RX.Ve Go.RX.Vq
def KX(cs:List SV)(hp:List Ck):List Nat:=
 cs.filterMap fun c=>match c with
  | .vv v=>hp.findIdx? (jB v)
  | _=>none
def Zv(az:List SV)(hp:List Ck):List Nat:=
 M7 (match az with | .ptr b _::_=>b | _=>0) hp++(match az with
  | [_,.ptr b _]=>iU b hp++(match hp.findIdx? (rS b)with
   | some i=>match hp[i]? with
    | some (.row _ _ cs)=>KX cs hp
    | _=>[]
   | none=>[])
  | _=>[])++mB hp
def Zw(c:cG):List Ck→List Ck
 | x::y::_=>D6 c.v c.i c.bo c.a [x,y]
 | l=>l
def VG:aK:={use:=Zv,inc:={v:=1,i:=1,a:=1},val:=fun _=> .oL [],new:=Zw}
def Rh(f:Nat):Option aK:=if f=32 then some VG else none
def Zx(b w:Nat)(st:St):Option cJ:=
 match st.hp.findIdx? (rS b)with
 | some i=>match st.hp[i]? with
  | some (.row _ wr [x,.bx,z])=>some {use:=[i],inc:={v:=1},new:=[.row b wr [x,.vv st.a_.v,z],.cC (w==1) st.a_.v 5 1 (.lit 0) [⟨.int .u8,1,.lit 0⟩]]}
  | _=>none
 | none=>none
def isWalk:Ck→Option Nat
 | .row b _ [.bool _,.bx,.bool _]=>some b
 | _=>none
def Zy(st:St):Option cJ:=
 match st.hp.findSome? isWalk with
 | some b=>Zx b 1 st
 | none=>none
def VH(f r:Nat):Option (St→Option cJ):=if f=13∧r=1 then some Zy else none
def XW:List SV:=[.agg (Vd.TS 0 0 0)]
def zy:aK:={use:=fun az hp=>(match az with | [.agg cs]=>qw [.agg cs] hp | _=>[])++mB hp,inc:={bo:=1},val:=fun c=> .bool (.var c.bo),new:=fun _ h=>h}
def AJ:aK:={use:=fun az hp=>(match az with | [.agg cs]=>qw [.agg cs] hp | _=>[])++mB hp,inc:={v:=1,i:=1,a:=1},val:=fun c=> .vv c.v,new:=fun c h=>h++[.cC true c.v 5 1 (.var c.i) (wH c.a)]}
def Zz(az:List SV)(hp:List Ck):List Nat:=match az with
 | [.sl b ..]=>iU b hp++(match hp.findIdx? (rS b)with
  | some i=>match hp[i]? with
   | some (.row _ _ [.vv v])=>(hp.findIdx? (jB v)).toList
   | _=>[]
  | none=>[])
 | _=>[]
def VI:aK:={use:=Zz,inc:={a:=1},val:=fun c=> .agg [.dg .u8 32 (.cU c.a)],new:=fun _ h=>h}
def ail(az:List SV)(hp:List Ck):List Nat:=match az with
 | .ptr b _::_=>iU b hp++(match hp.findIdx? (rS b)with
  | some i=>match hp[i]? with
   | some (.row _ _ [_,.sl b' ..,_])=>iU b' hp
   | _=>[]
  | none=>[])
 | _=>[]
def aim(c:cG):List Ck→List Ck
 | .row b wr [x,_,z]::_=>[.row b wr [x,.vv c.v,z],.cC true c.v 5 1 (.var (c.i+1)) (wH c.a)]
 | l=>l
def Ri:aK:={use:=ail,inc:={v:=1,i:=2,a:=1},val:=fun c=> .int .u64 (.var c.i),new:=aim}
def ZA:List SV:=[.ptr 0 0,u64 0,.int .i64 (.lit 4)]
def i8(n:Int):SV:= .int .u8 (.lit n)
def VJ:List Ck:=[.row 0 true [.bool (.lit true),.sl 1 (.lit 0) 1 (.lit 6) (.lit 6),.bool (.lit false)],.row 1 false [i8 72,i8 76,i8 83,i8 84,i8 0,i8 1]]
def Rj:cG:={b:=2,i:=1}
def Rk(f:Nat):Option aK:=
 match f with
 | 10=>some zy
 | 13=>some AJ
 | 21=>some Ri
 | 22=>some VI
 | _=>none
def only(d:Nat)(st:St):Option cJ:=
 match st.fr.lookup d with
 | some (.vv v)=>some {pick:=some (st.hp.findIdx? (jB v)).toList}
 | _=>some {pick:=some []}
def VK(f r:Nat):Option (St→Option cJ):=if f=9∧(r=2∨r=5∨r=10)then some (only 2)else none
end Go.RX.Vr

namespace Go.RX.Vt
open Go.RX Go.RX.Vb Go.RX.Vc Go.RX.Vd Go.RX.Ve Go.RX.Vq Go.RX.Vr
def ZB:Ck→Option (Nat×Nat)
 | .row b _ [.bool _,.jJ v ..,.bool _]=>some (b,v)
 | _=>none
def AK(ab:Bool)(st:St):Option cJ:=
 match st.hp.findSome? ZB with
 | some (b,v)=>match st.hp.findIdx? (rS b),st.hp.findIdx? (jB v)with
  | some i,some j=>match st.hp[i]?,st.hp[j]? with
   | some (.row _ wr [x,_,z]),some k=>some {use:=[i,j],inc:={v:=1,a:=1,i:=1,p:=1},new:=[.row b wr [x,.vv st.a_.v,z],k,.cC false st.a_.v 5 1 (.var st.a_.i) (wH st.a_.a)]++if ab then [.abs st.a_.p]else []}
   | _,_=>none
  | _,_=>none
 | none=>none
def VL(az:List SV)(hp:List Ck):List Nat:=match az with
 | [.sl b ..]=>iU b hp++(match hp.findIdx? (rS b)with
  | some i=>match hp[i]? with
   | some (.row _ _ [.jJ v ..])=>(hp.findIdx? (jB v)).toList
   | _=>[]
  | none=>[])
 | _=>[]
def Rl:aK:={use:=VL,inc:={a:=1},val:=fun c=> .agg [.dg .u8 32 (.cU c.a)],new:=fun _ h=>h}
def adZ(az:List SV)(hp:List Ck):List Nat:=match az with
 | [.sl b ..,.jJ v ..]=>iU b hp++(hp.findIdx? (jB v)).toList
 | _=>[]
def ZC:aK:={use:=adZ,inc:={bo:=1},val:=fun c=> .bool (.var c.bo),new:=fun _ h=>h}
def ZD(az:List SV)(hp:List Ck):List Nat:=
 M7 (match az with | .ptr b _::_=>b | _=>0) hp++(match az with | [_,.ptr b _]=>iU b hp | _=>[])++mB hp
def ZE(c:cG):List Ck→List Ck
 | x::y:: .row b wr _::_=>D6 c.v c.i c.bo c.a [x,y]++[.row b wr (Vd.TS (c.i+1) (c.a+1) (c.v+1)),.abs c.p]++Vd.stC true (c.i+19) (c.a+9) (c.v+1)
 | l=>l
def VM:aK:={use:=ZD,inc:={v:=8,i:=26,a:=23,bo:=1,p:=1},val:=fun _=> .oL [],new:=ZE}
def br(f:Nat):Option aK:=
 match f with
 | 10=>some zy
 | 21=>some ov
 | 22=>some Rl
 | 43=>some ZC
 | 32=>some VM
 | _=>none
def ad1(st:St):Nat:=match st.fr.lookup 2 with
 | some (.ptr b _)=>b
 | _=>0
def ad2(st:St):Option cJ:=some {pick:=some (iU (ad1 st) st.hp)}
def ad3(st:St):Option cJ:=
 some {pick:=some ((List.range st.hp.length).filter fun j=>match st.hp[j]? with | some (.cC true ..)=>true | some (.abs _)=>true | some (.row b ..)=>b==ad1 st | _=>false)}
def mE(f r:Nat):Option (St→Option cJ):=
 if f=17 then
  (if r=7 then some (AK false)else if r=11 then some (AK true)else if r=4∨r=6∨r=10∨r=14 then some ad2 else if r=15 then some ad3 else none)
 else none
def Rm:List SV:=[.vv 0]
def I8:List Ck:=[.cC false 0 5 1 (.var 0) (wH 0)]
def Eg:cG:={v:=1,i:=1,a:=1}
def eqA:List SV:=[.vv 0,.vv 1]
def ain:List Ck:=[.cC false 0 5 1 (.var 0) (wH 0),.cC false 1 5 1 (.var 1) (wH 1)]
def ad4:cG:={v:=2,i:=2,a:=2}
end Go.RX.Vt

namespace Go.RX.Vw
open Go.RX Go.RX.Vb Go.RX.Vc Go.RX.Vd Go.RX.Ve Go.RX.Vq Go.RX.Vr Go.RX.Vt
def Rn(az:List SV)(hp:List Ck):List Nat:=match az with
 | .vv v::_=>(hp.findIdx? (jB v)).toList
 | .jJ v .. ::_=>(hp.findIdx? (jB v)).toList
 | _=>[]
def Ro:aK:={use:=Rn,inc:={v:=1,a:=1},val:=fun c=> .vv c.v,new:=fun c h=>h++[.cC true c.v 5 1 (.lit 32) (wH c.a)]}
def Db:aK:={use:=Rn,inc:={v:=1,a:=1,i:=1},val:=fun c=> .vv c.v,new:=fun c h=>h++[.cC true c.v 5 1 (.var c.i) (wH c.a)]}
def Rp(f:Nat):Option aK:=if f=33 then some Ro else none
def Rq(f:Nat):Option aK:=if f=14 then some Db else none
def VN(f r:Nat):Option (St→Option cJ):=if f=14∧r=3 then some (only 2)else none
end Go.RX.Vw

namespace Go.RX.Vx
open Go.RX Go.RX.Vb Go.RX.Vc Go.RX.Vd Go.RX.Ve Go.RX.Vq Go.RX.Vr Go.RX.Vt
def Rr(b:Nat)(hp:List Ck):List SV:=match hp.findIdx? (rS b)with
 | some i=>match hp[i]? with
  | some (.row _ _ cs)=>cs
  | _=>[]
 | none=>[]
def ad5(d:Nat)(st:St):Option cJ:=
 match st.fr.lookup d with
 | some (.ptr b _)=>some {pick:=some (iU b st.hp++KX (Rr b st.hp) st.hp)}
 | _=>none
def mE(f r:Nat):Option (St→Option cJ):=if f=20∧r=2 then some (ad5 0)else none
end Go.RX.Vx

namespace Go.RX.Vz
open Go.RX Go.RX.Vb Go.RX.Vc Go.RX.Vd Go.RX.Ve Go.RX.Vq Go.RX.Vr Go.RX.Vt Go.RX.Vw
def Nu:aK:={use:=fun _ _=>[],inc:={v:=7,i:=25,a:=22,p:=1},val:=fun c=> .agg (Vd.TS c.i c.a c.v),new:=fun c _=>Vd.stC true (c.i+18) (c.a+8) c.v++[.abs c.p]}
def ad6(az:List SV)(hp:List Ck):List Nat:=(match az with | [.agg cs]=>qw [.agg cs] hp | [.opt _ (.agg cs)]=>qw [.agg cs] hp | _=>[])++mB hp
def Dc:aK:={AJ with use:=ad6}
def Eh:aK:={use:=ad6,inc:={v:=1,i:=2,a:=1},val:=fun c=> .oL [.vv c.v,.int .i64 (.var c.i)],new:=fun c h=>h++[.cC true c.v 5 1 (.var (c.i+1)) (wH c.a)]}
def rW(ab:Bool):aK:={use:=Rn,inc:={v:=7,i:=26,a:=22,p:=1},val:=fun c=> .oL [.agg (Vd.TS c.i c.a c.v),.int .i64 (.var (c.i+25))],new:=fun c h=>h++Vd.stC true (c.i+18) (c.a+8) c.v++if ab then [.abs c.p]else []}
def Rs(f:Nat):Option aK:=
 match f with
 | 20=>some Nu
 | 9=>some Eh
 | 17=>some (rW false)
 | 13=>some Dc
 | 10=>some zy
 | _=>none
end Go.RX.Vz

namespace Go.RX.Wa
open Go.RX Go.RX.Vb Go.RX.Vc Go.RX.Vd Go.RX.Ve Go.RX.Vq Go.RX.Vr Go.RX.Vt Go.RX.Vw Go.RX.Vz
def Dd:aK:={use:=fun _ _=>[],inc:={},val:=fun _=> .bool (.lit true),new:=fun _ _=>[]}
def De:aK:={use:=Rn,inc:={v:=1,i:=1,a:=1,bo:=1},val:=fun c=> .oL [.vv c.v,.bool (.var c.bo)],new:=fun c h=>h++[.cC false c.v 5 1 (.var c.i) (wH c.a)]}
def br(f:Nat):Option aK:=
 match f with
 | 7=>some Dd
 | 18=>some De
 | 9=>some Eh
 | 17=>some (rW true)
 | 13=>some Dc
 | 10=>some zy
 | _=>none
def aio:List SV:=[.vv 0]
def ad7:List Ck:=[.cC false 0 5 1 (.var 0) (wH 0)]
def ZF:cG:={v:=1,i:=1,a:=1}
end Go.RX.Wa

namespace Go.RX.Wc
open Go.RX Go.RX.Vb Go.RX.Vc Go.RX.Vd Go.RX.Ve Go.RX.Vq Go.RX.Vr Go.RX.Vt Go.RX.Vw Go.RX.Vz Go.RX.Wa
def ZG(az:List SV)(hp:List Ck):List Nat:=
 match (match az with | [.agg cs]=>qw [.agg cs] hp | [.opt _ (.agg cs)]=>qw [.agg cs] hp | _=>[])with
 | []=>[]
 | l=>l++[l.getLast?.getD 0+1]
def Nv:aK:={AJ with use:=ZG}
def Ru:aK:={Eh with use:=ZG}
def Rv:aK:={use:=Rn,inc:={bo:=1},val:=fun c=> .bool (.var c.bo),new:=fun _ h=>h}
def Nw:aK:={use:=ZG,inc:={bo:=1},val:=fun c=> .bool (.var c.bo),new:=fun _ h=>h}
def Rw(f:Nat):Option aK:=
 match f with
 | 17=>some (rW false)
 | 18=>some De
 | _=>none
def br(f:Nat):Option aK:=
 match f with
 | 7=>some Dd
 | 8=>some Nw
 | 9=>some Ru
 | 13=>some Nv
 | 14=>some Db
 | 17=>some (rW true)
 | 19=>some Rv
 | _=>none
def ad8:List SV:=[.agg (Vd.TS 0 0 0),.int .i64 (.var 25),.int .u8 (.var 26),.bool (.var 0)]
def Rx:List Ck:=Vd.stC false 18 8 0++[.abs 0]
def VO:cG:={v:=7,i:=27,a:=22,p:=1,bo:=1}
def aip(vs:Nat)(e:E)(t s:Nat)(cs:Nat→List bP)(na:Nat)(st:St):Option cJ:=
 match st.hp.findIdx? (jB vs),mB st.hp with
 | some j,[k]=>match st.hp[j]? with
  | some (.cC md _ ty sz n aA)=>some {use:=[j,k],inc:={i:=1,a:=na,v:=1},new:=[.cC md vs ty sz n (aA.map fun c=>if c.ck= .cv then⟨.pt e st.a_.v,1,c.a⟩else c),st.hp.getD k .emp,.cC false st.a_.v t s (.var st.a_.i) (cs st.a_.a)]}
  | _=>none
 | _,_=>none
def Ry(g l i t s:Nat)(cs:Nat→List bP)(na:Nat)(st:St):Option cJ:=
 match st.fr.lookup g,st.fr.lookup l,st.fr.lookup i with
 | some (.bool b),some (.vv vl),some (.int _ e)=>
  if st.known.contains b then aip vl e t s cs na st
  else if st.known.contains (j5 b)then none else some {split:=some b}
 | _,_,_=>none
def Rz(l:Nat)(st:St):Option cJ:=
 match st.fr.lookup l with
 | some (.vv vl)=>
  match st.hp.findIdx? (jB vl)with
  | some j=>match st.hp[j]? with
   | some (.cC md _ t s n aA)=>
    match aA.findSome? (fun c=>match c.ck with | .pt _ v=>some v | _=>none)with
    | some v=>match st.hp.findIdx? (jB v)with
     | some i=>some {use:=[j,i],new:=[.cC md vl t s n (aA.map fun c=>match c.ck with | .pt .. =>⟨.cv,1,c.a⟩ | _=>c),st.hp.getD i .emp]}
     | none=>none
    | none=>none
   | _=>none
  | none=>none
 | _=>none
def AK(t:Nat)(st:St):Option cJ:=
 match st.hp.findIdx? (fun c=>match c with | .cC false _ ty _ _ _=>ty==t | _=>false)with
 | some i=>some {use:=[i],new:=[]}
 | none=>none
def VP(f r:Nat):Option (St→Option cJ):=
 if f=8 then
  (if r=3 then some (Ry 44 41 43 77 268 Ve.bS 20)else if r=4 then some (Rz 41)else if r=10 then some (AK 77)
   else if r=6 then some (Ry 51 48 50 245 65 dV 3)else if r=7 then some (Rz 48)else if r=9 then some (AK 245)else none)
 else none
def wr(i:Nat):SV:= .int .i64 (.wrap .i64 (.var i))
def ZH(f id:Nat):Option ey:=
 match f,id with
 | 8,0=>some {inc:={i:=2},aX:=fun c=>[(3,wr c.i),(43,.int .i64 (.var (c.i+1)))]}
 | 8,2=>some {inc:={i:=2},aX:=fun c=>[(3,wr c.i),(50,.int .i64 (.var (c.i+1)))]}
 | _,_=>none
def ZI:List SV:=[.agg (Vd.TS 0 0 0)]
def RA:cG:={v:=7,i:=25,a:=22,p:=1}
end Go.RX.Wc

namespace Go.RX.Vb
open Go.RX Go.Proofs
noncomputable def aiq:Ctx:={T:=TT,FT:=FT,br:=Wc.Rw}
noncomputable def air:Ctx:={T:=TT,FT:=FT,loops:=Wc.ZH,mE:=Wc.VP}
noncomputable def ais:Ctx:={T:=TT,FT:=FT,br:=Wc.br}
end Go.RX.Vb
