/- Arguments of nested structs and slices. -/
import Derived.Test.YtllcdnkfbeokhaaGreatRows
import Derived.Test.YtllcdnkfbeokhaaGreatM25
open Bool renaming and_eq_true -> ai
open Go.Proofs.Tryz renaming prog -> ax8
open Int renaming toNat -> ag
open List renaming getD_eq_getElem?_getD -> ayk, getElem?_append_left -> axX, getElem?_append_right -> axY, getElem?_eq_getElem -> ays, getElem?_eq_some_iff -> axT, length_append -> axP, length_cons -> ax5, length_map -> ayd, map_cons -> ayr, mem_map -> ayg, mem_range -> ayc
open Nat renaming blt -> ayo, blt_eq -> ayb
open Option renaming map_eq_some_iff -> axV
open Option.some renaming injEq -> axU
namespace Go.RX.Vb
open Go Go.RX Go.Proofs
open Go.ChangeShapes Go.WideShapes Go.ChangeAt Go.RowKit
open Go.Proofs.YtllcdnkfbeokhaaGreat (Rows.uptoBulk Rows.uptoBulkAll)
open Go.Proofs.YtllcdnkfbeokhaaGreat
theorem Hw{H:Type}(d:DataW H):1<=Rows.uptoBulk d:=by
 cases d with
 | lit l=>cases l<;>simp[Rows.uptoBulk]
 | nil=>simp[Rows.uptoBulk]
 | ptr d=>simp[Rows.uptoBulk]
 | slice elems spare=>simp[Rows.uptoBulk]
 | agg parts=>simp[Rows.uptoBulk]
 | iface t d=>simp[Rows.uptoBulk]
 | map entries=>simp[Rows.uptoBulk]
 | held h=>simp[Rows.uptoBulk]
theorem Hx{H:Type}: ∀l:List (DataW H),l.length<=Rows.uptoBulkAll l
 | []=>by simp
 | d::l=>by
  have h1:=Hw d;have h2:=Hx l;simp only[Rows.uptoBulkAll,ax5];omega
theorem LO{H:Type}{α:Type}(f:α->Nat): ∀(l:List α) (m:List (DataW H)),l.length=m.length->(∀(i:Nat) a d,l[i]? =some a->m[i]? =some d->f a<=Rows.uptoBulk d)->(l.map f).sum<=Rows.uptoBulkAll m
 | [],m,_,_=>by simp
 | a::l,[],h,_=>by cases h
 | a::l,d::m,h,hf=>by
  have h1:=hf 0 a d rfl rfl;have h2:=LO f l m (by simpa using h) λi a' d' ha hd=>hf (i+1) a' d' ha hd
  simp only[ayr,List.sum_cons,Rows.uptoBulkAll];omega
structure rN (w:World) (t:TypeId) (α:Type) where
 cells:α->List Value
 ok:α->Prop
 bz:α->Nat
 size:Nat
 fY:Tryz.prog.cellsOf t=size
 len: ∀a,ok a->(cells a).length=size
 op: ∀{H:Type} {enc:TypeId×Value->H} {fuel:Nat} {cs:List Value} {x:DataW H×List MemPlace},DataW.trod enc ax8 w 0 (λ_=>true) true fuel t cs=some x->∃a,cs=cells a/\ok a/\bz a<=Rows.uptoBulk x.1
variable {w:World}
noncomputable def aaH{t:TypeId}(k:IntKind)(ht:Tryz.prog.underlying t=some (.int k))(hc:Tryz.prog.cellsOf t=1):rN w t Int where
 cells z:=[.int k z]
 ok z:=(Lit.int k z).wf=true
 bz _:=1
 size:=1
 fY:=hc
 len _ _:=rfl
 op h:=by
  obtain⟨z,rfl,rfl,hz⟩:=DataW.trod_int ht h;exact⟨z,rfl,hz,Nat.le_refl _⟩
noncomputable def aaI{t:TypeId}(k:IntKind)(b:Nat)(ht:Tryz.prog.underlying t=some (.int k))(hc:Tryz.prog.cellsOf t=1)(hk:k.min=0/\k.max+1=((256^b:Nat):Int)):rN w t Nat where
 cells n:=[.int k (n:Int)]
 ok n:=n<256^b
 bz _:=1
 size:=1
 fY:=hc
 len _ _:=rfl
 op h:=by
  obtain⟨z,rfl,rfl,hz⟩:=DataW.trod_int ht h;simp only[Lit.wf,ai,decide_eq_true_eq]at hz;refine⟨z.toNat,?_,?_,Nat.le_refl _⟩
  .rw [Int.toNat_of_nonneg (by omega)]
  .omega
noncomputable def Wy{t:TypeId}(ht:Tryz.prog.underlying t=some .bool)(hc:Tryz.prog.cellsOf t=1):rN w t Bool where
 cells b:=[.bool b]
 ok _:=True
 bz _:=1
 size:=1
 fY:=hc
 len _ _:=rfl
 op h:=by
  obtain⟨b,rfl,rfl⟩:=DataW.trod_bool ht h;exact⟨b,rfl,trivial,Nat.le_refl _⟩
theorem Ox{n:Nat}{cs:List Value}{l:List Nat}(hc:cs.length=n)(hl:l.length=n)(h: ∀(i:Nat) (_:i<n),cs[i]? =some (.int .u8 ((l.getD i 0:Nat):Int))):cs=aj .u8 n (aJ l):=by
 refine List.ext_getElem? λi=>?_
 by_cases hi:i<n
 .rw [h i hi,aj,List.getElem?_map,List.getElem?_range hi];rfl
 .rw [List.getElem?_eq_none (by omega),List.getElem?_eq_none (by simp[aj];omega)]
noncomputable def BA{t:TypeId}(n:Nat)(ht:Tryz.prog.underlying t=some (.array n 5))(hc:Tryz.prog.cellsOf t=n):rN w t (List Nat) where
 cells l:=aj .u8 n (aJ l)
 ok l:=l.length=n/\∀x∈l,x<256
 bz _:=n+1
 size:=n
 fY:=hc
 len _ _:=by simp[aj]
 op {H enc fuel cs x} h:=by
  obtain⟨xs,m,_,rfl,hl,hxl,hf⟩:=DataW.trod_array ht h;rw[hc]at hl;have c5:Tryz.prog.cellsOf 5=1:=by kernel_rfl
  have key: ∀i,∃c:Nat,i<n->(c<256/\∃qE:Value,True/\qE= .int .u8 (c:Int)/\(List.drop (i*1) cs)[0]? =some qE):=by
   intro i;by_cases hi:i<n
   .have h1:=hf i hi;rw[c5,ays (by omega:i<xs.length)]at h1;obtain⟨z,hz,_,hw⟩:=DataW.trod_int Tryz.underlying5 h1;simp only[Lit.wf,ai,decide_eq_true_eq,show IntKind.u8.min=0 by decide,show IntKind.u8.max=255 by decide]at hw;refine⟨z.toNat,λ_=>⟨by omega,.int .u8 z,trivial,by rw[Int.toNat_of_nonneg (by omega)],?_⟩⟩;have:=congrArg (λl=>l[0]?) hz;simpa using this
   .exact⟨0,λh=>absurd h hi⟩
  obtain⟨C,hC⟩:=Classical.axiomOfChoice key;refine⟨(List.range n).map C,Ox hl (by simp) λi hi=>?_,⟨by simp,λx hx=>?_⟩,?_⟩
  .obtain⟨_,v,_,rfl,hv⟩:=hC i hi;rw[Nat.mul_one,List.getElem?_drop,Nat.add_zero]at hv;have e:((List.range n).map C).getD i 0=C i:=by
    rw[ayk,List.getElem?_map,List.getElem?_range hi];rfl
   rw[hv,e]
  .obtain⟨i,hi,rfl⟩:=ayg.1 hx;exact(hC i (ayc.1 hi)).1
  .simp only[Rows.uptoBulk];have:=Hx (xs.map (·.1));rw[ayd,hxl]at this;exact Nat.succ_le_succ this
def Hy(w:World)(h:HP):Prop:= ∃S:Nat->Prop,h.p w S/\∀k,S k->k<w.heap.size
theorem Zb(f:Nat->List Value)(s:Nat): ∀n:Nat,(∀i,i<n->(f i).length=s)->((List.range n).flatMap f).length=n*s/\∀(m:Nat) u,((List.range n).flatMap f)[m]? =some u->∃i j,i<n/\m=i*s+j/\(f i)[j]? =some u
 | 0,_=>⟨by simp,λm u h=>by simp at h⟩
 | n+1,hf=>by
  obtain⟨h1,h2⟩:=Zb f s n λi hi=>hf i (by omega)
  have e:(List.range (n+1)).flatMap f=(List.range n).flatMap f++f n:=by simp[List.range_succ,List.flatMap_append]
  rw[e];refine⟨by rw[axP,h1,hf n (by omega),Nat.succ_mul],λm u h=>?_⟩;by_cases hm:m<((List.range n).flatMap f).length
  .rw [axX hm]at h;obtain⟨i,j,q1,q2,q3⟩:=h2 m u h;exact⟨i,j,by omega,q2,q3⟩
  .rw [axY (by omega)]at h;refine⟨n,_,by omega,?_,h⟩;rw[h1]at hm ⊢;omega
theorem BB{α:Type}(f:α->List Value)(l:List α)(d:α):l.flatMap f=(List.range l.length).flatMap λi=>f (l.getD i d):=by
 conv=>lhs;rw[show l=(List.range l.length).map λi=>l.getD i d from List.ext_getElem (by simp) λi h1 h2=>by simp[ayk,h1]]
 rw[List.flatMap_map]
theorem add_zero'(x:Addr):x.add 0=x:=by unfold Addr.add;rw[if_pos rfl]
theorem R1(x:Addr)(i j:Nat):(x.add i).add j=x.add (i+j):=by
 unfold Addr.add;by_cases hi:i=0
 .subst hi;simp
 .by_cases hj:j=0
  .subst hj;simp[hi]
  .simp [hi,hj,Nat.add_assoc]
theorem Wz(t s:Nat):Hy w (aA false t s (.slice none 0 0) 0 []):=by
 refine⟨λ_=>False,⟨?_,λk=>by simp[Value.ownBlock]⟩,λk h=>h.elim⟩;simp only[Bool.false_eq_true,if_false];exact⟨by simp,none,0,0,rfl,rfl,Nat.le_refl _,λ_=>rfl,λ_ h=>(nomatch h)⟩
theorem aaJ{α:Type}(f:α->List Value)(t s:Nat)(hs:0<s)(a:Addr)(cap:Nat)(l:List α)(hf: ∀x∈l,(f x).length=s)(hl:l.length<=cap)
  (h: ∀(i:Nat) (x:α),l[i]? =some x->∀(j:Nat) u,(f x)[j]? =some u->w.cell? (a.add (i*s+j))=some u):Hy w (aA false t s (.slice (some a) l.length cap) l.length (l.flatMap f)):=by
 cases l with
 | nil=>
  refine⟨λk=>False,⟨?_,λk=>by simp⟩,λk h=>h.elim⟩;simp only[Bool.false_eq_true,if_false];exact⟨by simp,some a,0,cap,rfl,rfl,Nat.zero_le _,λh=>(nomatch h),λad had=>⟨λh0=>absurd h0 (by simp),λm u hu=>by simp at hu⟩⟩
 | cons x0 l0=>
  obtain⟨l,zB⟩: ∃l,l=x0::l0:=⟨_,rfl⟩;rw[<-zB]at hf hl h ⊢;have uC:0<l.length:=by rw[zB];simp
  rw[BB f l x0];have fG:=Zb (λi=>f (l.getD i x0)) s l.length λi hi=>by
   refine hf _ ?_;rw[ayk,ays hi];exact List.getElem_mem hi
  have er: ∀i,i<l.length->∀(j:Nat) u,(f (l.getD i x0))[j]? =some u->w.cell? (a.add (i*s+j))=some u:=λi hi j u hu=>by
   refine h i (l.getD i x0) ?_ j u hu;rw[ayk,ays hi];rfl
  obtain⟨u0,hu0⟩: ∃u,(f (l.getD 0 x0))[0]? =some u:=⟨_,ays (by
   rw[hf _ (by rw[ayk,ays uC];exact List.getElem_mem uC)];exact hs)⟩
  have h0:=er 0 uC 0 u0 hu0;rw[Nat.zero_mul,Nat.zero_add,add_zero']at h0;refine⟨λk=>(Value.slice (some a) l.length cap).ownBlock=some k/\0<l.length,⟨?_,λk=>by simp⟩,?_⟩
  .simp only[Bool.false_eq_true,if_false];refine⟨fG.1,some a,l.length,cap,rfl,rfl,hl,λh=>(nomatch h),λad had=>⟨λ_=>?_,λm u hu=>?_⟩⟩
   .cases had;exact World.cell?_spot h0
   .cases had;obtain⟨i,j,q1,rfl,q3⟩:=fG.2 m u hu;exact er i q1 j u q3
  .rintro k ⟨hk,_⟩;simp only[Value.ownBlock,axU]at hk;subst hk;exact World.block_lt_of_cell? w _ h0
noncomputable def mP{t e:TypeId}{α:Type}(O:rN w e α)(ht:Tryz.prog.underlying t=some (.slice e))(hc:Tryz.prog.cellsOf t=1)(hs:ayo 0 O.size=true):rN w t (V1×List α) where
 cells p:=[p.1.v]
 ok p:=(∀a∈p.2,O.ok a)/\Hy w (aA false e O.size p.1.v p.2.length (p.2.flatMap O.cells))
 bz p:=(p.2.map O.bz).sum+1
 size:=1
 fY:=hc
 len _ _:=rfl
 op h:=by
  rcases DataW.trod_slice ht h with⟨rfl,hx⟩ | ⟨a,len,cap,elems,rest,m,_,rfl,rfl,hb,hl,hm,hlen,hel,_,_⟩
  .refine⟨(⟨.slice none 0 0,rfl⟩,[]),rfl,⟨λa h=>(nomatch h),Wz _ _⟩,?_⟩;simpa using Hw _
  .have key: ∀i,∃y:Option α,i<len->∃y0,y=some y0/\O.ok y0/\(∀d:DataW _×List MemPlace,elems[i]? =some d->O.bz y0<=Rows.uptoBulk d.1)/\∀(j:Nat) u,(O.cells y0)[j]? =some u->w.cell? (a.add (i*O.size+j))=some u:=by
    intro i;by_cases hi:i<len
    .have h1:=hel i hi;have hg:elems[i]? =some (elems[i]'(by omega)):=ays (by omega);rw[hg,Option.bind_eq_some_iff]at h1;obtain⟨qE,nY,htr⟩:=h1;obtain⟨y0,rfl,iW,Lk⟩:=O.op htr;obtain⟨_,fO,er⟩:=World.cells?_some nY;rw[O.fY]at er fO;refine⟨some y0,λ_=>⟨y0,rfl,iW,λd hd=>?_,λj u hu=>?_⟩⟩
     .rw [hg]at hd;cases hd;exact Lk
     .have hj:j<O.size:=by
       have:=(axT.1 hu).1
       rwa[O.len y0 iW]at this
      have:=er j (by omega);rw[hu,R1]at this;exact this
    .exact⟨none,λh=>absurd h hi⟩
   obtain⟨Y,hY⟩:=Classical.axiomOfChoice key;have hYl:((List.range len).filterMap Y).length=len/\∀i,i<len->((List.range len).filterMap Y)[i]? =Y i:=by
    have oO: ∀n,n<=len->((List.range n).filterMap Y).length=n/\∀i,i<n->((List.range n).filterMap Y)[i]? =Y i:=by
     intro n
     induction n with
     | zero=>exact λ_=>⟨rfl,λi hi=>absurd hi (Nat.not_lt_zero i)⟩
     | succ n ih=>
      intro hn;obtain⟨i1,i2⟩:=ih (by omega);obtain⟨y0,R2,_⟩:=hY n (by omega);have e:(List.range (n+1)).filterMap Y=(List.range n).filterMap Y++[y0]:=by
       rw[List.range_succ,List.filterMap_append];simp[R2]
      rw[e];refine⟨by simp[i1],λi hi=>?_⟩;by_cases PX:i<n
      .rw [axX (by omega)];exact i2 i PX
      .have:i=n:=by omega
       subst this;rw[axY (by omega),i1,Nat.sub_self,R2];rfl
    exact oO len (Nat.le_refl _)
   obtain⟨JC,NF⟩:=hYl;obtain⟨l,hL⟩: ∃l,l=(List.range len).filterMap Y:=⟨_,rfl⟩;rw[<-hL]at JC NF;subst JC;have sA: ∀(i:Nat) x,l[i]? =some x->i<l.length/\Y i=some x:=λi x hx=>by
    have hi:=(axT.1 hx).1;exact⟨hi,by rw[<-NF i hi];exact hx⟩
   have iW: ∀x∈l,O.ok x:=λx hx=>by
    obtain⟨i,hi,rfl⟩:=List.mem_iff_getElem.1 hx;obtain⟨h1,h2⟩:=sA i _ (ays hi);obtain⟨y0,R2,h3,_⟩:=hY i h1;rw[h2]at R2;cases R2;exact h3
   refine⟨(⟨.slice (some a) l.length cap,rfl⟩,l),rfl,⟨iW,?_⟩,?_⟩
   .refine aaJ O.cells e O.size (by rwa[ayb]at hs) a cap l (λx hx=>O.len x (iW x hx)) hl λi x hx j u hu=>?_
    obtain⟨h1,h2⟩:=sA i x hx;obtain⟨y0,R2,_,_,h4⟩:=hY i h1;rw[h2]at R2;cases R2;exact h4 j u hu
   .have:=LO O.bz l (elems.map (·.1)) (by simp[hlen]) λi x d hx hd=>by
     obtain⟨h1,h2⟩:=sA i x hx;obtain⟨y0,R2,_,h3,_⟩:=hY i h1;rw[h2]at R2;cases R2;rw[List.getElem?_map,axV]at hd;obtain⟨d0,mN,rfl⟩:=hd;exact h3 d0 mN
    simp only[Rows.uptoBulk];omega
noncomputable def Fits{H:Type}(enc:TypeId×Value->H)(w:World)(n:Nat)(cs:List Value):Nat->List TypeId->List (DataW H×List MemPlace)->Prop
 | o,[],[]=>cs.length=o
 | o,t::ts,y::ys=>DataW.trod enc ax8 w 0 (λ_=>true) true n t ((cs.drop o).take (Tryz.prog.cellsOf t))=some y/\Fits enc w n cs (o+Tryz.prog.cellsOf t) ts ys
 | _,_,_=>False
structure WA (w:World) (ts:List TypeId) (α:Type) where
 cells:α->List Value
 ok:α->Prop
 bz:α->Nat
 size:Nat
 fY:(ts.map Tryz.prog.cellsOf).sum=size
 len: ∀a,ok a->(cells a).length=size
 op: ∀{H:Type} {enc:TypeId×Value->H} {n o:Nat} {cs:List Value} {ys:List (DataW H×List MemPlace)},Fits enc w n cs o ts ys->∃a,cs.drop o=cells a/\ok a/\bz a<=Rows.uptoBulkAll (ys.map (·.1))
noncomputable def mw:WA w [] Unit where
 cells _:=[]
 ok _:=True
 bz _:=0
 size:=0
 fY:=rfl
 len _ _:=rfl
 op {H enc n o cs ys} h:=by
  cases ys with
  | nil=>exact⟨(),List.drop_eq_nil_of_le (by rw[show cs.length=o from h];exact Nat.le_refl _),trivial,Nat.zero_le _⟩
  | cons y ys=>exact h.elim
noncomputable def aW{t:TypeId}{ts:List TypeId}{α β:Type}(O:rN w t α)(F:WA w ts β):WA w (t::ts) (α×β) where
 cells p:=O.cells p.1++F.cells p.2
 ok p:=O.ok p.1/\F.ok p.2
 bz p:=O.bz p.1+F.bz p.2
 size:=O.size+F.size
 fY:=by rw[ayr,List.sum_cons,O.fY,F.fY]
 len p h:=by rw[axP,O.len _ h.1,F.len _ h.2]
 op {H enc n o cs ys} h:=by
  cases ys with
  | nil=>exact h.elim
  | cons y ys=>
   obtain⟨h1,h2⟩:=h;obtain⟨a,ha,iW,hb⟩:=O.op h1;obtain⟨b,CJ,FX,hb3⟩:=F.op h2;refine⟨(a,b),?_,⟨iW,FX⟩,?_⟩
   .rw [<-ha,<-CJ,<-List.drop_drop,List.take_append_drop]
   .simp only[ayr,Rows.uptoBulkAll];omega
noncomputable def WB:Nat->List TypeId->List Nat
 | _,[]=>[]
 | o,t::ts=>o::WB (o+Tryz.prog.cellsOf t) ts
theorem LP{H:Type}{enc:TypeId×Value->H}{n:Nat}{cs:List Value}: ∀(fs:List Field) (o:Nat) (xs:List (DataW H×List MemPlace)),xs.length=fs.length->
  (∀(i:Nat) (f:Field),fs[i]? =some f->DataW.trod enc ax8 w 0 (λ_=>true) true n f.type ((cs.drop f.offset).take (Tryz.prog.cellsOf f.type))=xs[i]?)->
  fs.map Field.offset=WB o (fs.map Field.type)->cs.length=o+((fs.map Field.type).map Tryz.prog.cellsOf).sum->
  Fits enc w n cs o (fs.map Field.type) xs
 | [],o,[],_,_,_,hl=>by simpa[Fits] using hl
 | [],o,_::_,h,_,_,_=>by cases h
 | f::fs,o,[],h,_,_,_=>by cases h
 | f::fs,o,x::xs,h,hf,ho,hl=>by
  simp only[ayr,WB,List.cons.injEq]at ho;obtain⟨h1,h2⟩:=ho;refine⟨?_,?_⟩
  .have:=hf 0 f rfl;rw[h1]at this;simpa using this
  .refine LP fs _ xs (by simpa using h) (λi g hg=>hf (i+1) g (by simpa using hg)) h2 ?_;rw[hl,ayr,ayr,List.sum_cons,Nat.add_assoc]
noncomputable def fV{t:TypeId}{fs:Array Field}{α:Type}(ht:Tryz.prog.underlying t=some (.struct fs))(F:WA w (fs.toList.map Field.type) α)(hc:Tryz.prog.cellsOf t=F.size)
  (ho:fs.toList.map Field.offset=WB 0 (fs.toList.map Field.type)):rN w t α where
 cells:=F.cells
 ok:=F.ok
 bz a:=F.bz a+1
 size:=F.size
 fY:=hc
 len:=F.len
 op {H enc fuel cs x} h:=by
  obtain⟨xs,n,_,rfl,hl,hxl,hf⟩:=DataW.trod_struct ht h;have si:Fits enc w n cs 0 (fs.toList.map Field.type) xs:=LP fs.toList 0 xs (by simpa using hxl) (λi f hg=>hf i f (by simpa using hg)) ho (by rw[hl,hc,<-F.fY,Nat.zero_add]);obtain⟨a,h1,h2,h3⟩:=F.op si;refine⟨a,by rwa[List.drop_zero]at h1,h2,?_⟩;simp only[Rows.uptoBulk];omega
open Go Go.RX Go.Proofs
abbrev sG(a0:V1)(a1:Int)(a2 a3 a4:Nat->Int):HP:=aA false 245 65 a0.v (ag a1) (aG (ag a1) [ax .u8 32 a2,ax .u32 1 a3,ax .u8 32 a4])
abbrev R3(a0:V1)(a1:Int)(a2 a3 a4 a5 a6 a7 a8 a9 ES C4 JS JT Oh:Nat->Int)(Oi:Int)(Oj:V1)(Ol Om On Oo Rr a22 a23:Nat->Int):HP:=aA false 77 268 a0.v (ag a1) (aG (ag a1) [ax .u8 32 a2,ax .u8 32 a3,ax .u8 32 a4,ax .u8 32 a5,cR 1 a6,cR 1 a7,cR 1 a8,cR 1 a9,ax .u8 32 ES,ax .u32 1 C4,ax .u8 32 JS,ax .u32 1 JT,ax .u32 1 Oh,cV 1 (λj=>if j=(ag Oi)then Oj.v else bg (Ol j)),ax .u8 32 Om,ax .u8 32 On,cR 1 Oo,ax .u32 1 Rr,cR 1 a22,cR 1 a23])
end Go.RX.Vb

namespace Go.RX.Vn
open Go.RX Go.RX.Vb Go.RX.Vc Go.RX.Vd Go.RX.Ve
def afK(i a v:Nat):List SV:=[key a,key (a+1),key (a+2),key (a+3),bl i,bl (i+1),bl (i+2),bl (i+3),key (a+4),u32 (i+4),key (a+5),u32 (i+5),u32 (i+6),.vv v]
def akK:List SV:=[.agg (afK 1 0 0)]
def afL:List Ck:=[.cF false 0 245 65 (.var 0) (dv 6)]
def aaL:cI:={v:=1,i:=8,a:=9}
def WC:aI:={use:=λ_ hp=>kT hp,inc:={i:=2},val:=λc=> .oH [.j9 (.var c.i),.int .i64 (.var (c.i+1))],new:=λ_ h=>h}
def ofA:List SV:=[.agg [u8 0,u8 1,.vv 0]]
def akL:List Ck:=[.cF false 0 77 268 (.var 2) (Ve.bS 0),.abs 0]
def afM:cI:={v:=1,i:=3,a:=20,p:=1}
def bj(f:Nat):Option aI:=if f=113 then some WC else none
def R4(a:Nat):List bU:=[⟨.ptr,1,.cM a⟩]
def aaM(c:cI):List Ck->List Ck
 | [x,y,r,.row b w _,.cF ..,.cF ..]=>[x,y,r,.row b w [.vv c.v,.vv (c.v+1),.j9 (.var (c.i+1))],.cF true c.v 211 1 (.var (c.i+2)) (R4 c.a),.cF true (c.v+1) 211 1 (.var (c.i+3)) (R4 (c.a+1))]
 | h=>h
def loops(f id:Nat):Option dA:=
 match f,id with
 | 67,0=>some {pre:=[.cell 3 0 211,.cell 3 1 211],inc:={i:=4,v:=2,a:=2},aQ:=λc=>[(15,.int .i64 (.var c.i))],hp:=aaM}
 | _,_=>none
def ET:aI:={use:=λaz hp=>match az with | [.vv v]=>(hp.findIdx? (iF v)).toList | _=>[],inc:={v:=1},val:=λc=> .vv c.v,new:=λ_ h=>h}
def WD:aI:={use:=λ_ hp=>kT hp,inc:={i:=1,bo:=1},val:=λc=> .oH [.j9 (.var c.i),.bool (.var c.bo)],new:=λ_ h=>h}
def R5(f:Nat):Option aI:=
 match f with
 | 81=>some ET
 | 67=>some WD
 | _=>none
def akM:List SV:=[.agg [u8 0,u8 1,key 0,key 1,.vv 0,i64 2,.vv 1]]
def afN:List Ck:=[.cF false 0 93 33 (.var 3) (dE 2),.cF false 1 68 3 (.var 4) (Vd.bI 4),.abs 0]
def aaN:cI:={v:=2,i:=5,a:=7,p:=1}
def Zc(a:Nat):Ck->Ck
 | .map b kl ka va z _ _=> .map b kl ka va z (.cM a) (R4 (a+1))
 | c=>c
def WE(c:cI)(h:List Ck):List Ck:=h.map (Zc c.a)
def aaO(f id:Nat):Option dA:=
 match f,id with
 | 34,0=>some {inc:={i:=2,a:=2},aQ:=λc=>[(18,.int .i64 (.var c.i)),(5,.int .i64 (.var (c.i+1)))],hp:=WE}
 | _,_=>none
end Go.RX.Vn

namespace Go.RX.Vb
open Go.RX Go.Proofs
noncomputable def cxN:Ctx:={T:=TT,FT:=FT,loops:=Vn.loops,bj:=Vn.bj}
noncomputable def akO:Ctx:={T:=TT,FT:=FT,loops:=Vn.aaO,bj:=Vn.R5}
end Go.RX.Vb

namespace Go.RX.Vo
open Go.RX Go.RX.Vb Go.RX.Vc Go.RX.Vd Go.RX.Ve Go.RX.Vn
def LQ(t s:Nat)(cs:Nat->List bU)(c:cI):List Ck->List Ck
 | x:: .row b w [_,m]:: .cF .. ::r=>x:: .row b w [.vv c.v,m]:: .cF true c.v t s (.var (c.i+1)) (cs c.a)::r
 | h=>h
def WG(c:cI):List Ck->List Ck
 | x:: .row b w [a,_,m]:: .cF .. ::r=>x:: .row b w [a,.vv c.v,m]:: .cF true c.v 5 1 (.var (c.i+1)) (uQ c.a)::r
 | h=>h
def loops(f id:Nat):Option dA:=
 match f,id with
 | 70,0=>some {pre:=[.cell 1 0 36],back:=[.rh 1 0 true],inc:={i:=2,v:=1,a:=1},aQ:=λc=>[(12,.int .i64 (.var c.i))],hp:=LQ 36 16 idC}
 | 72,0=>some {pre:=[.cell 1 0 26],back:=[.rh 1 0 true],inc:={i:=2,v:=1,a:=2},aQ:=λc=>[(12,.int .i64 (.var c.i))],hp:=LQ 26 2 Vd.gq}
 | 116,0=>some {pre:=[.cell 1 1 5],inc:={i:=2,v:=1,a:=1},aQ:=λc=>[(21,.int .i64 (.var c.i))],hp:=WG}
 | 71,0=>some {inc:={i:=1},aQ:=λc=>[(33,.int .i64 (.var c.i))]}
 | 199,0=>some {inc:={i:=1},aQ:=λc=>[(8,.int .i64 (.var c.i))]}
 | 200,0=>some {inc:={i:=1},aQ:=λc=>[(8,.int .i64 (.var c.i))]}
 | _,_=>none
def akP:List SV:=[.int .i64 (.lit 256),.vv 0]
def akQ:List SV:=[.int .i64 (.lit 4),.vv 0]
def hpI:List Ck:=[.cF false 0 36 16 (.var 0) (idC 0)]
def hpD:List Ck:=[.cF false 0 26 2 (.var 0) (Vd.gq 0)]
def Og:cI:={v:=1,i:=1,a:=2}
def akR:List SV:=[u8 0,.vv 0,i64 1]
def afO:List Ck:=[.cF false 0 5 1 (.var 2) (uQ 0)]
def aaP:cI:={v:=1,i:=3,a:=1}
def ET:aI:={use:=λaz hp=>match az with | [.vv v]=>(hp.findIdx? (iF v)).toList | _=>[],inc:={v:=1},val:=λc=> .vv c.v,new:=λ_ h=>h}
def R6(f:Nat):Option aI:=if f=117 then some ET else none
def LR:aI:={use:=λaz hp=>match az with | [_,.vv v]=>(hp.findIdx? (iF v)).toList | _=>[],inc:={i:=1},val:=λc=> .j9 (.var c.i),new:=λ_ h=>h}
def WH:aI:={use:=λaz hp=>match az with | [_,.vv v,_]=>(hp.findIdx? (iF v)).toList | _=>[],inc:={i:=2},val:=λc=> .oH [.j9 (.var c.i),.int .i64 (.var (c.i+1))],new:=λ_ h=>h}
def R7(f:Nat):Option aI:=
 match f with
 | 70=>some LR
 | 72=>some LR
 | 71=>some WH
 | _=>none
def j7(i a v:Nat):List SV:=[u8 i,u8 (i+1),sg 8 a,.vv v,u8 (i+2),sg 16 (a+1),bl (i+3),u8 (i+4),u8 (i+5),u8 (i+6),sg 32 (a+2),sg 32 (a+3),sg 32 (a+4),.vv (v+1),i64 (i+7),.vv (v+2),u64 (i+8),u64 (i+9),u64 (i+10),u64 (i+11),u64 (i+12),u32 (i+13)]
def WI:List SV:=[.agg (j7 0 0 0)]
def LS:List Ck:=[.cF false 0 36 16 (.var 14) (idC 5),.cF false 1 5 1 (.var 15) (uQ 6),.cF false 2 26 2 (.var 16) (Vd.gq 7)]
def J1:cI:={v:=3,i:=17,a:=9}
end Go.RX.Vo

namespace Go.RX.Vp
open Go.RX Go.RX.Vb Go.RX.Vc Go.RX.Vd Go.RX.Ve Go.RX.Vn Go.RX.Vo
def afP:List SV:=[.vv 0]
def Zd:List Ck:=[.cF false 0 5 1 (.var 0) (uQ 0)]
def R8:cI:={v:=1,i:=1,a:=1}
def WJ(az:List SV)(hp:List Ck):List Nat:=
 match az with
 | .vv v::_=>(hp.findIdx? (iF v)).toList
 | .kj v _ _::_=>(hp.findIdx? (iF v)).toList
 | _=>[]
def akS(i a:Nat):SV:= .agg [sg 16 a,u8 i,bl (i+1),u8 (i+2),u64 (i+3),u64 (i+4),u64 (i+5)]
def WK:aI:={use:=WJ,inc:={i:=7,a:=1},val:=λc=> .oH [akS c.i c.a,.int .i64 (.var (c.i+6))],new:=λ_ h=>h}
def BC(f:Nat):Option aI:=if f=75 then some WK else none
def recC(a:Nat):List bU:=[⟨.int .u8,16,.cM a⟩,⟨.int .u8,1,.cM (a+1)⟩,⟨.bool,1,.cM (a+2)⟩,⟨.int .u8,1,.cM (a+3)⟩,⟨.int .u64,1,.cM (a+4)⟩,⟨.int .u64,1,.cM (a+5)⟩,⟨.int .u64,1,.cM (a+6)⟩]
def aaQ(c:cI):Ck->Ck
 | .row 2 w [_,m]=> .row 2 w [.vv c.v,m]
 | .map b kl ka va z _ aB=> .map b kl ka va z (.cM c.a) aB
 | .cF true _ t s _ _=> .cF true c.v t s (.var (c.i+1)) (recC (c.a+1))
 | h=>h
def loops(f id:Nat):Option dA:=
 match f,id with
 | 121,0=>some {pre:=[.cell 3 0 188],inc:={i:=2,v:=1,a:=8},aQ:=λc=>[(4,.int .i64 (.var c.i))],hp:=λc h=>h.map (aaQ c)}
 | _,_=>none
end Go.RX.Vp

namespace Go.RX.Vb
open Go.RX Go.Proofs
noncomputable def cxO:Ctx:={T:=TT,FT:=FT,loops:=Vo.loops}
noncomputable def afQ:Ctx:={T:=TT,FT:=FT,loops:=Vo.loops,bj:=Vo.R6}
noncomputable def akT:Ctx:={T:=TT,FT:=FT,loops:=Vo.loops,bj:=Vo.R7}
noncomputable def akU:Ctx:={T:=TT,FT:=FT,loops:=Vp.loops,bj:=Vp.BC}
end Go.RX.Vb

namespace Go.RX.Vq
open Go.RX Go.RX.Vb Go.RX.Vc Go.RX.Vd Go.RX.Ve Go.RX.Vn Go.RX.Vo Go.RX.Vp
def aaR(i a:Nat)(m:Nat):List SV:=[u8 i,u8 (i+1),.pT,sg 32 a,u64 (i+2),.j9 (.var (i+3)),.j9 (.var (i+4)),.j9 (.var (i+5)),.mp m,sg 16 (a+1)]
def akV:List SV:=[.ptr 0 0,.agg [sg 16 2],u8 6,bl 7]
def afR:List Ck:=[.row 0 true (aaR 0 0 1),.map 1 (List.replicate 16 .u8) true false [.iy] (.cM 3) (R4 4)]
def aaS:cI:={b:=2,i:=8,a:=5}
def ri(az:List SV)(hp:List Ck):List Nat:=
 match az with
 | [.agg cs]=>cs.filterMap λc=>match c with
  | .vv v=>hp.findIdx? (iF v)
  | _=>none
 | _=>[]
def WL:aI:={use:=λaz hp=>ri az hp++kT hp,inc:={i:=2},val:=λc=> .oH [.j9 (.var c.i),.int .i64 (.var (c.i+1))],new:=λ_ h=>h}
def WM:aI:={use:=ri,inc:={i:=2},val:=λc=> .oH [.j9 (.var c.i),.int .i64 (.var (c.i+1))],new:=λ_ h=>h}
def WN:aI:={use:=λaz hp=>match az with | [.vv v]=>(hp.findIdx? (iF v)).toList | _=>[],inc:={i:=2},val:=λc=> .oH [.j9 (.var c.i),.int .i64 (.var (c.i+1))],new:=λ_ h=>h}
def aaT(az:List SV)(hp:List Ck):List Nat:=match az with
 | .ptr b _::_=>jr b hp++(match hp.findIdx? (rG b)with
  | some i=>match hp[i]? with
   | some (.row _ _ cs)=>cs.flatMap λc=>match c with | .mp m=>(hp.findIdx? λx=>x.isMap m).toList | _=>[]
   | _=>[]
  | none=>[])
 | _=>[]
def aaU(c:cI):List Ck->List Ck
 | [r,.map b kl ka va z _ _]=>[r,.map b kl ka va z (.cM c.a) (R4 (c.a+1)),.row c.b true [.j9 (.var c.i),.j9 (.var (c.i+1)),.bool (.lit false),.bool (.var c.bo),u8 (c.i+2),.int .u64 (.lit 0)]]
 | h=>h
def WO:aI:={use:=aaT,inc:={b:=1,i:=3,a:=2,bo:=1},val:=λc=> .oH [.ptr c.b 0,.bool (.lit true)],new:=aaU}
def aaV(az:List SV)(hp:List Ck):List Nat:=
 match az with
 | [.Qt v ..,.sl b ..]=>(hp.findIdx? (iF v)).toList++jr b hp
 | _=>[]
def WQ:aI:={use:=aaV,inc:={i:=1},val:=λc=> .int .i64 (.var c.i),new:=λ_ h=>h}
def bj(f:Nat):Option aI:=
 match f with
 | 34=>some WL
 | 35=>some WM
 | 36=>some WN
 | 38=>some WO
 | 37=>some WQ
 | _=>none
def WR(c:cI)(h:List Ck):List Ck:=h.map (Zc c.a)
def loops(f id:Nat):Option dA:=
 match f,id with
 | 15,0=>some {inc:={i:=1,a:=2},aQ:=λc=>[(73,.int .i64 (.var c.i))],hp:=WR}
 | _,_=>none
def aaW:List SV:=[.agg (Vd.Rm 0 0 0),.pT]
def LU:List Ck:=Vd.stC false 18 8 0++[.abs 0]
def uS:cI:={v:=7,i:=25,a:=22,p:=1}
def akW:List SV:=[.vv 0,.vv 1]
def afS:List Ck:=[.cF false 0 5 1 (.var 0) (uQ 0),.cF false 1 5 1 (.var 1) (uQ 1)]
def aaX:cI:={v:=2,i:=2,a:=2}
def aaY(f id:Nat):Option dA:=
 match f,id with
 | 37,0=>some {inc:={i:=1},aQ:=λc=>[(11,.int .i64 (.var c.i))]}
 | _,_=>none
def aaZ(az:List SV)(hp:List Ck):List Nat:=
 (match az with
  | .agg cs::_=>ri [.agg cs] hp
  | _=>[])++kT hp
def WS:aI:={use:=aaZ,inc:={i:=2},val:=λc=> .oH [.j9 (.var c.i),.int .i64 (.var (c.i+1))],new:=λ_ h=>h}
def R9(f:Nat):Option aI:=if f=15 then some WS else none
def akX:List SV:=[.agg (Vd.Rm 0 0 0)]
end Go.RX.Vq

namespace Go.RX.Vr
open Go.RX Go.RX.Vb Go.RX.Vc Go.RX.Vd Go.RX.Ve Go.RX.Vq
def LV(cs:List SV)(hp:List Ck):List Nat:=
 cs.filterMap λc=>match c with
  | .vv v=>hp.findIdx? (iF v)
  | _=>none
def aa0(az:List SV)(hp:List Ck):List Nat:=
 N_ (match az with | .ptr b _::_=>b | _=>0) hp++(match az with
  | [_,.ptr b _]=>jr b hp++(match hp.findIdx? (rG b)with
   | some i=>match hp[i]? with
    | some (.row _ _ cs)=>LV cs hp
    | _=>[]
   | none=>[])
  | _=>[])++kT hp
def aa1(c:cI):List Ck->List Ck
 | x::y::_=>EP c.v c.i c.bo c.a [x,y]
 | l=>l
def WT:aI:={use:=aa0,inc:={v:=1,i:=1,a:=1},val:=λ_=> .oH [],new:=aa1}
def BD(f:Nat):Option aI:=if f=32 then some WT else none
def aa2(b w:Nat)(st:St):Option cc:=
 match st.hp.findIdx? (rG b)with
 | some i=>match st.hp[i]? with
  | some (.row _ wr [x,.bW,z])=>some {use:=[i],inc:={v:=1},new:=[.row b wr [x,.vv st.aY.v,z],.cF (w==1) st.aY.v 5 1 (.lit 0) [⟨.int .u8,1,.lit 0⟩]]}
  | _=>none
 | none=>none
def isWalk:Ck->Option Nat
 | .row b _ [.bool _,.bW,.bool _]=>some b
 | _=>none
def aa3(st:St):Option cc:=
 match st.hp.findSome? isWalk with
 | some b=>aa2 b 1 st
 | none=>none
def EU(f r:Nat):Option (St->Option cc):=if f=13/\r=1 then some aa3 else none
def Ze:List SV:=[.agg (Vd.Rm 0 0 0)]
def wB:aI:={use:=λaz hp=>(match az with | [.agg cs]=>ri [.agg cs] hp | _=>[])++kT hp,inc:={bo:=1},val:=λc=> .bool (.var c.bo),new:=λ_ h=>h}
def BF:aI:={use:=λaz hp=>(match az with | [.agg cs]=>ri [.agg cs] hp | _=>[])++kT hp,inc:={v:=1,i:=1,a:=1},val:=λc=> .vv c.v,new:=λc h=>h++[.cF true c.v 5 1 (.var c.i) (uQ c.a)]}
def aa4(az:List SV)(hp:List Ck):List Nat:=match az with
 | [.sl b ..]=>jr b hp++(match hp.findIdx? (rG b)with
  | some i=>match hp[i]? with
   | some (.row _ _ [.vv v])=>(hp.findIdx? (iF v)).toList
   | _=>[]
  | none=>[])
 | _=>[]
def WU:aI:={use:=aa4,inc:={a:=1},val:=λc=> .agg [.jD .u8 32 (.cM c.a)],new:=λ_ h=>h}
def akY(az:List SV)(hp:List Ck):List Nat:=match az with
 | .ptr b _::_=>jr b hp++(match hp.findIdx? (rG b)with
  | some i=>match hp[i]? with
   | some (.row _ _ [_,.sl b' ..,_])=>jr b' hp
   | _=>[]
  | none=>[])
 | _=>[]
def akZ(c:cI):List Ck->List Ck
 | .row b wr [x,_,z]::_=>[.row b wr [x,.vv c.v,z],.cF true c.v 5 1 (.var (c.i+1)) (uQ c.a)]
 | l=>l
def R_:aI:={use:=akY,inc:={v:=1,i:=2,a:=1},val:=λc=> .int .u64 (.var c.i),new:=akZ}
def aa5:List SV:=[.ptr 0 0,u64 0,.int .i64 (.lit 4)]
def i8(n:Int):SV:= .int .u8 (.lit n)
def WV:List Ck:=[.row 0 true [.bool (.lit true),.sl 1 (.lit 0) 1 (.lit 6) (.lit 6),.bool (.lit false)],.row 1 false [i8 72,i8 76,i8 83,i8 84,i8 0,i8 1]]
def Sa:cI:={b:=2,i:=1}
def Sb(f:Nat):Option aI:=
 match f with
 | 10=>some wB
 | 13=>some BF
 | 21=>some R_
 | 22=>some WU
 | _=>none
def only(d:Nat)(st:St):Option cc:=
 match st.fr.lookup d with
 | some (.vv v)=>some {pick:=some (st.hp.findIdx? (iF v)).toList}
 | _=>some {pick:=some []}
def WW(f r:Nat):Option (St->Option cc):=if f=9/\(r=2\/r=5\/r=10)then some (only 2)else none
end Go.RX.Vr

namespace Go.RX.Vt
open Go.RX Go.RX.Vb Go.RX.Vc Go.RX.Vd Go.RX.Ve Go.RX.Vq Go.RX.Vr
def aa6:Ck->Option (Nat×Nat)
 | .row b _ [.bool _,.kj v ..,.bool _]=>some (b,v)
 | _=>none
def uT(ab:Bool)(st:St):Option cc:=
 match st.hp.findSome? aa6 with
 | some (b,v)=>match st.hp.findIdx? (rG b),st.hp.findIdx? (iF v)with
  | some i,some j=>match st.hp[i]?,st.hp[j]? with
   | some (.row _ wr [x,_,z]),some k=>some {use:=[i,j],inc:={v:=1,a:=1,i:=1,p:=1},new:=[.row b wr [x,.vv st.aY.v,z],k,.cF false st.aY.v 5 1 (.var st.aY.i) (uQ st.aY.a)]++if ab then [.abs st.aY.p]else []}
   | _,_=>none
  | _,_=>none
 | none=>none
def WX(az:List SV)(hp:List Ck):List Nat:=match az with
 | [.sl b ..]=>jr b hp++(match hp.findIdx? (rG b)with
  | some i=>match hp[i]? with
   | some (.row _ _ [.kj v ..])=>(hp.findIdx? (iF v)).toList
   | _=>[]
  | none=>[])
 | _=>[]
def Sc:aI:={use:=WX,inc:={a:=1},val:=λc=> .agg [.jD .u8 32 (.cM c.a)],new:=λ_ h=>h}
def afT(az:List SV)(hp:List Ck):List Nat:=match az with
 | [.sl b ..,.kj v ..]=>jr b hp++(hp.findIdx? (iF v)).toList
 | _=>[]
def aa7:aI:={use:=afT,inc:={bo:=1},val:=λc=> .bool (.var c.bo),new:=λ_ h=>h}
def aa8(az:List SV)(hp:List Ck):List Nat:=
 N_ (match az with | .ptr b _::_=>b | _=>0) hp++(match az with | [_,.ptr b _]=>jr b hp | _=>[])++kT hp
def aa9(c:cI):List Ck->List Ck
 | x::y:: .row b wr _::_=>EP c.v c.i c.bo c.a [x,y]++[.row b wr (Vd.Rm (c.i+1) (c.a+1) (c.v+1)),.abs c.p]++Vd.stC true (c.i+19) (c.a+9) (c.v+1)
 | l=>l
def WY:aI:={use:=aa8,inc:={v:=8,i:=26,a:=23,bo:=1,p:=1},val:=λ_=> .oH [],new:=aa9}
def bj(f:Nat):Option aI:=
 match f with
 | 10=>some wB
 | 21=>some o_
 | 22=>some Sc
 | 43=>some aa7
 | 32=>some WY
 | _=>none
def afU(st:St):Nat:=match st.fr.lookup 2 with
 | some (.ptr b _)=>b
 | _=>0
def afV(st:St):Option cc:=some {pick:=some (jr (afU st) st.hp)}
def afW(st:St):Option cc:=
 some {pick:=some ((List.range st.hp.length).filter λj=>match st.hp[j]? with | some (.cF true ..)=>true | some (.abs _)=>true | some (.row b ..)=>b==afU st | _=>false)}
def iN(f r:Nat):Option (St->Option cc):=
 if f=17 then
  (if r=7 then some (uT false)else if r=11 then some (uT true)else if r=4\/r=6\/r=10\/r=14 then some afV else if r=15 then some afW else none)
 else none
def Zf:List SV:=[.vv 0]
def Sd:List Ck:=[.cF false 0 5 1 (.var 0) (uQ 0)]
def LW:cI:={v:=1,i:=1,a:=1}
def eqA:List SV:=[.vv 0,.vv 1]
def ak0:List Ck:=[.cF false 0 5 1 (.var 0) (uQ 0),.cF false 1 5 1 (.var 1) (uQ 1)]
def afX:cI:={v:=2,i:=2,a:=2}
end Go.RX.Vt

namespace Go.RX.Vw
open Go.RX Go.RX.Vb Go.RX.Vc Go.RX.Vd Go.RX.Ve Go.RX.Vq Go.RX.Vr Go.RX.Vt
def Se(az:List SV)(hp:List Ck):List Nat:=match az with
 | .vv v::_=>(hp.findIdx? (iF v)).toList
 | .kj v .. ::_=>(hp.findIdx? (iF v)).toList
 | _=>[]
def Sf:aI:={use:=Se,inc:={v:=1,a:=1},val:=λc=> .vv c.v,new:=λc h=>h++[.cF true c.v 5 1 (.lit 32) (uQ c.a)]}
def DT:aI:={use:=Se,inc:={v:=1,a:=1,i:=1},val:=λc=> .vv c.v,new:=λc h=>h++[.cF true c.v 5 1 (.var c.i) (uQ c.a)]}
def Sg(f:Nat):Option aI:=if f=33 then some Sf else none
def WZ(f r:Nat):Option (St->Option cc):=if f=14/\r=3 then some (only 2)else none
end Go.RX.Vw

namespace Go.RX.Vx
open Go.RX Go.RX.Vb Go.RX.Vc Go.RX.Vd Go.RX.Ve Go.RX.Vq Go.RX.Vr Go.RX.Vt
def Si(b:Nat)(hp:List Ck):List SV:=match hp.findIdx? (rG b)with
 | some i=>match hp[i]? with
  | some (.row _ _ cs)=>cs
  | _=>[]
 | none=>[]
def afY(d:Nat)(st:St):Option cc:=
 match st.fr.lookup d with
 | some (.ptr b _)=>some {pick:=some (jr b st.hp++LV (Si b st.hp) st.hp)}
 | _=>none
def iN(f r:Nat):Option (St->Option cc):=if f=20/\r=2 then some (afY 0)else none
end Go.RX.Vx

namespace Go.RX.Vz
open Go.RX Go.RX.Vb Go.RX.Vc Go.RX.Vd Go.RX.Ve Go.RX.Vq Go.RX.Vr Go.RX.Vt Go.RX.Vw
def Oy:aI:={use:=λ_ _=>[],inc:={v:=7,i:=25,a:=22,p:=1},val:=λc=> .agg (Vd.Rm c.i c.a c.v),new:=λc _=>Vd.stC true (c.i+18) (c.a+8) c.v++[.abs c.p]}
def afZ(az:List SV)(hp:List Ck):List Nat:=(match az with | [.agg cs]=>ri [.agg cs] hp | [.opt _ (.agg cs)]=>ri [.agg cs] hp | _=>[])++kT hp
def DU:aI:={BF with use:=afZ}
def EV:aI:={use:=afZ,inc:={v:=1,i:=2,a:=1},val:=λc=> .oH [.vv c.v,.int .i64 (.var c.i)],new:=λc h=>h++[.cF true c.v 5 1 (.var (c.i+1)) (uQ c.a)]}
def wC(ab:Bool):aI:={use:=Se,inc:={v:=7,i:=26,a:=22,p:=1},val:=λc=> .oH [.agg (Vd.Rm c.i c.a c.v),.int .i64 (.var (c.i+25))],new:=λc h=>h++Vd.stC true (c.i+18) (c.a+8) c.v++if ab then [.abs c.p]else []}
def Sj(f:Nat):Option aI:=
 match f with
 | 20=>some Oy
 | 9=>some EV
 | 17=>some (wC false)
 | 13=>some DU
 | 10=>some wB
 | _=>none
end Go.RX.Vz

namespace Go.RX.Wa
open Go.RX Go.RX.Vb Go.RX.Vc Go.RX.Vd Go.RX.Ve Go.RX.Vq Go.RX.Vr Go.RX.Vt Go.RX.Vw Go.RX.Vz
def xZ:aI:={use:=λ_ _=>[],inc:={},val:=λ_=> .bool (.lit true),new:=λ_ _=>[]}
def Oz:aI:={use:=Se,inc:={v:=1,i:=1,a:=1,bo:=1},val:=λc=> .oH [.vv c.v,.bool (.var c.bo)],new:=λc h=>h++[.cF false c.v 5 1 (.var c.i) (uQ c.a)]}
def bj(f:Nat):Option aI:=
 match f with
 | 7=>some xZ
 | 18=>some Oz
 | 9=>some EV
 | 17=>some (wC true)
 | 13=>some DU
 | 10=>some wB
 | _=>none
end Go.RX.Wa

namespace Go.RX.Wc
open Go.RX Go.RX.Vb Go.RX.Vc Go.RX.Vd Go.RX.Ve Go.RX.Vq Go.RX.Vr Go.RX.Vt Go.RX.Vw Go.RX.Vz Go.RX.Wa
def Sk(az:List SV)(hp:List Ck):List Nat:=
 match (match az with | [.agg cs]=>ri [.agg cs] hp | [.opt _ (.agg cs)]=>ri [.agg cs] hp | _=>[])with
 | []=>[]
 | l=>l++[l.getLast?.getD 0+1]
def DV:aI:={BF with use:=Sk}
def Hz:aI:={EV with use:=Sk}
def Sl:aI:={wB with use:=Sk}
def Sm:aI:={use:=Se,inc:={bo:=1},val:=λc=> .bool (.var c.bo),new:=λ_ h=>h}
def DW:aI:={use:=Sk,inc:={bo:=1},val:=λc=> .bool (.var c.bo),new:=λ_ h=>h}
def bj(f:Nat):Option aI:=
 match f with
 | 7=>some xZ
 | 8=>some DW
 | 9=>some Hz
 | 13=>some DV
 | 14=>some DT
 | 17=>some (wC true)
 | 19=>some Sm
 | _=>none
def Sn:List Ck:=Vd.stC false 18 8 0++[.abs 0]
def ak1(vs:Nat)(e:E)(t s:Nat)(cs:Nat->List bU)(na:Nat)(st:St):Option cc:=
 match st.hp.findIdx? (iF vs),kT st.hp with
 | some j,[k]=>match st.hp[j]? with
  | some (.cF md _ ty sz n aB)=>some {use:=[j,k],inc:={i:=1,a:=na,v:=1},new:=[.cF md vs ty sz n (aB.map λc=>if c.ck= .cv then⟨.pt e st.aY.v,1,c.a⟩else c),st.hp.getD k .emp,.cF false st.aY.v t s (.var st.aY.i) (cs st.aY.a)]}
  | _=>none
 | _,_=>none
def EW(g l i t s:Nat)(cs:Nat->List bU)(na:Nat)(st:St):Option cc:=
 match st.fr.lookup g,st.fr.lookup l,st.fr.lookup i with
 | some (.bool b),some (.vv vl),some (.int _ e)=>
  if st.known.contains b then ak1 vl e t s cs na st
  else if st.known.contains (kp b)then none else some {split:=some b}
 | _,_,_=>none
def EX(l:Nat)(st:St):Option cc:=
 match st.fr.lookup l with
 | some (.vv vl)=>
  match st.hp.findIdx? (iF vl)with
  | some j=>match st.hp[j]? with
   | some (.cF md _ t s n aB)=>
    match aB.findSome? (λc=>match c.ck with | .pt _ v=>some v | _=>none)with
    | some v=>match st.hp.findIdx? (iF v)with
     | some i=>some {use:=[j,i],new:=[.cF md vl t s n (aB.map λc=>match c.ck with | .pt .. =>⟨.cv,1,c.a⟩ | _=>c),st.hp.getD i .emp]}
     | none=>none
    | none=>none
   | _=>none
  | none=>none
 | _=>none
def uT(t:Nat)(st:St):Option cc:=
 match st.hp.findIdx? (λc=>match c with | .cF false _ ty _ _ _=>ty==t | _=>false)with
 | some i=>some {use:=[i],new:=[]}
 | none=>none
def W0(f r:Nat):Option (St->Option cc):=
 if f=8 then
  (if r=3 then some (EW 44 41 43 77 268 Ve.bS 20)else if r=4 then some (EX 41)else if r=10 then some (uT 77)
   else if r=6 then some (EW 51 48 50 245 65 dv 3)else if r=7 then some (EX 48)else if r=9 then some (uT 245)else none)
 else none
def wr(i:Nat):SV:= .int .i64 (.wrap .i64 (.var i))
def aa_(f id:Nat):Option dA:=
 match f,id with
 | 8,0=>some {inc:={i:=2},aQ:=λc=>[(3,wr c.i),(43,.int .i64 (.var (c.i+1)))]}
 | 8,2=>some {inc:={i:=2},aQ:=λc=>[(3,wr c.i),(50,.int .i64 (.var (c.i+1)))]}
 | _,_=>none
def abb:List SV:=[.agg (Vd.Rm 0 0 0)]
def HB:cI:={v:=7,i:=25,a:=22,p:=1}
end Go.RX.Wc

namespace Go.RX.Vb
open Go.RX Go.Proofs
noncomputable def ak2:Ctx:={T:=TT,FT:=FT,loops:=Wc.aa_,iN:=Wc.W0}
end Go.RX.Vb
