/- A reflective symbolic executor: arguments of integers and bools, structs and arrays of them, and slices of such. -/
import Derived.Test.YtfnaoeleljhmhaaGreatM45
import Derived.OpenShut
import Derived.Test.YtfnaoeleljhmhaaGreatM28

namespace Go.RX
def flatA(P:Program):Nat→TypeId→Option (List (Option IntKind))
 | 0,_=>none
 | n+1,t=>match P.underlying t with
  | some (.int k)=>some [some k]
  | some .bool=>some [none]
  | some (.struct fs)=>flatF P (flatA P n) fs.toList 0
  | some (.array m e)=>match flatA P n e with
   | some ks=>if P.cellsOf e=ks.length then some (List.replicate m ks).flatten else none
   | none=>none
  | _=>none
section
variable {H:Type} {enc:TypeId×Value→H} {P:Program} {w:World} {base:Nat} {spare:Nat→Bool} {held:Bool}
theorem flatR{ks:List (Option IntKind)}{cs:List Value}: ∀(m off:Nat),(∀i,i<m→∀(j:Nat) k,ks[j]? =some k→∃v,cs[off+i*ks.length+j]? =some v∧CellOk k v)→
  ∀(j:Nat) k,(List.replicate m ks).flatten[j]? =some k→∃v,cs[off+j]? =some v∧CellOk k v
 | 0,_,_,j,k,hk=>by simp at hk
 | m+1,off,h,j,k,hk=>by
  rw [List.replicate_succ,List.flatten_cons]at hk;by_cases hj:j<ks.length
  ·rw [List.getElem?_append_left hj]at hk;simpa using h 0 (by omega) j k hk
  ·rw [List.getElem?_append_right (by omega)]at hk;obtain⟨v,hv,hok⟩:=flatR m (off+ks.length) (fun i hi j k hk=>by
    obtain⟨v,hv,hok⟩:=h (i+1) (by omega) j k hk;exact⟨v,by rw [←hv,Nat.succ_mul];congr 1;omega,hok⟩) _ k hk
   exact⟨v,by rw [←hv];congr 1;omega,hok⟩
theorem flatA_trod: ∀{n:Nat} {t:TypeId} {ks:List (Option IntKind)} {cs:List Value},flatA P n t=some ks→(∃m x,DataW.trod enc P w base spare held m t cs=some x)→∀(j:Nat) k,ks[j]? =some k→∃v,cs[j]? =some v∧CellOk k v
 | 0,_,_,_,h,_,_,_,_=>by cases h
 | n+1,t,ks,cs,h,⟨m,x,hx⟩,j,k,hk=>by
  unfold flatA at h;split at h
  ·rename_i kk ht;cases h;obtain⟨z,rfl,_,hw⟩:=DataW.trod_int ht hx
   match j,hk with
   | 0,hk=>
    simp at hk;subst hk;exact⟨_,rfl,z,rfl,hw⟩
   | j+1,hk=>simp at hk
  ·rename_i ht;cases h;cases m with
   | zero=>simp [DataW.trod]at hx
   | succ m=>
    have hb: ∃b,cs=[.bool b]:=by
     unfold DataW.trod at hx;rw [ht]at hx;split at hx<;>simp_all
    obtain⟨b,rfl⟩:=hb
    match j,hk with
    | 0,hk=>
     simp at hk;subst hk;exact⟨_,rfl,if b then 1 else 0,by cases b<;>rfl,trivial⟩
    | j+1,hk=>simp at hk
  ·rename_i fs ht;obtain⟨ys,n',_,_,_,hyl,hf⟩:=DataW.trod_struct ht hx;have:=flatF_trod (cs:=cs) (fun t ks cs' h1 h2=>flatA_trod (n:=n) h1 h2) h (fun f hf'=>by
    obtain⟨i,hi⟩:=List.getElem?_of_mem hf';have hi':fs[i]? =some f:=by rw [←hi,Array.getElem?_toList]
    have h1:=hf i f hi';have hil:i<fs.size:=(Array.getElem?_eq_some_iff.1 hi').1;exact⟨n',ys[i]'(by omega),h1.trans (List.getElem?_eq_getElem _)⟩) j k hk
   simpa using this
  ·rename_i l e ht;split at h
   ·rename_i ks' he;split at h
    ·rename_i hc;cases h;obtain⟨xs,n',_,_,_,hxl,hf⟩:=DataW.trod_array ht hx;have:=flatR (cs:=cs) l 0 (fun i hi j k hk=>by
      have h1:=hf i hi;obtain⟨v,hv,hok⟩:=flatA_trod (n:=n) he ⟨n',xs[i]'(by omega),h1.trans (List.getElem?_eq_getElem _)⟩ j k hk;rw [List.getElem?_take]at hv;split at hv
      ·rw [List.getElem?_drop,hc]at hv;exact⟨v,by rw [←hv];congr 1;omega,hok⟩
      ·cases hv) j k hk
     simpa using this
    ·cases h
   ·cases h
  ·cases h
end
def segV(k:Option IntKind)(n:Nat)(f:Nat→Int):List Value:=
 match k with
 | some k=>segCells k n f
 | none=>(List.range n).map fun j=> .bool (!(f j==0))
theorem segV_eq(k:Option IntKind)(n:Nat)(f:Nat→Int):segV k n f=(List.range n).map fun j=>cellV k (f j):=by
 cases k<;>rfl
def layV:List (Option IntKind×Nat)→(Nat→Int)→List Value
 | [],_=>[]
 | (k,n)::r,F=>segV k n F++layV r fun j=>F (n+j)
theorem layV_at: ∀{l:List (Option IntKind×Nat)} {F:Nat→Int} {j:Nat},(layV l F)[j]? =(layCells l)[j]?.map fun k=>cellV k (F j)
 | [],_,_=>by simp [layV,layCells]
 | (k,n)::r,F,j=>by
  simp only [layV,layCells];by_cases hj:j<n
  ·rw [List.getElem?_append_left (by simp [segV_eq,hj]),List.getElem?_append_left (by simp [hj]),segV_eq];simp [hj]
  ·rw [List.getElem?_append_right (by simp [segV_eq];omega),List.getElem?_append_right (by simp;omega),layV_at];simp only [segV_eq,List.length_map,List.length_range,List.length_replicate];rw [show n+(j - n)=j by omega]
theorem open_flat{H:Type}{enc:TypeId×Value→H}{P:Program}{w:World}{base:Nat}{spare:Nat→Bool}{held:Bool}{r:Reach}{b0:Nat}{t:TypeId}{v:Value}{d:DataW H}{ps:List MemPlace}{n:Nat}{l:List (Option IntKind×Nat)}
  (ha:(match P.underlying t with | some (.struct _)=>true | some (.array _ _)=>true | _=>false)=true) (hf:flatA P n t=some (layCells l)) (hc:P.cellsOf t=(layCells l).length)
  (hval:Value.okWide P w r b0 t v) (hd:DataW.Trod enc P w base spare held t v d ps):
  ∃F:Nat→Int,v= .agg (layV l F).toArray∧∀(j:Nat) k,(layCells l)[j]? =some k→cellWf k (F j):=by
 have hagg: ∃cs,v= .agg cs∧cs.size=P.cellsOf t:=by
  unfold Value.okWide at hval;split at ha
  ·rename_i ht;rw [ht]at hval;exact⟨_,hval.choose_spec.1,hval.choose_spec.2.1⟩
  ·rename_i ht;rw [ht]at hval;exact⟨_,hval.choose_spec.1,hval.choose_spec.2.1⟩
  ·cases ha
 obtain⟨cs,rfl,hs⟩:=hagg;obtain⟨fuel,hx⟩:=hd;have key: ∀j:Nat,∃z:Int,∀k,(layCells l)[j]? =some k→cs[j]? =some (cellV k z)∧cellWf k z:=by
  intro j;cases hk:(layCells l)[j]? with
  | none=>exact⟨0,fun k h=>by cases h⟩
  | some k=>
   obtain⟨v,hv,z,rfl,hz⟩:=flatA_trod hf ⟨_,_,hx⟩ j k hk;refine⟨z,fun k' h=>?_⟩;cases h;exact⟨by simpa [Value.cells] using hv,hz⟩
 refine⟨fun j=>(key j).choose,?_,fun j k hk=>((key j).choose_spec k hk).2⟩;congr 1;apply Array.ext';apply List.ext_getElem?;intro j;simp only [layV_at];have hspec:=(key j).choose_spec;generalize (key j).choose=z at hspec ⊢;cases hk:(layCells l)[j]? with
 | none=>
  rw [List.getElem?_eq_none_iff]at hk;simp;omega
 | some k=>simpa using (hspec k hk).1
theorem open_tabA{H:Type}{enc:TypeId×Value→H}{P:Program}{w:World}{base:Nat}{spare:Nat→Bool}{held:Bool}{t e:TypeId}{n:Nat}{ks:List (Option IntKind)}{fuel:Nat}{cs:List Value}{x:DataW H×List MemPlace}
  (ht:P.underlying t=some (.slice e)) (he:flatA P n e=some ks) (hc:P.cellsOf e=ks.length) (h:DataW.trod enc P w base spare held fuel t cs=some x):
  ∃a len cap F,cs=[.slice a len cap]∧IsTab ks w a len cap F:=by
 rcases DataW.trod_slice ht h with⟨rfl,_⟩ | ⟨a,len,cap,elems,rest,m,_,rfl,_,hb,hl,hm,hlen,hel,_,_⟩
 ·exact⟨none,0,0,fun _ _=>0,rfl,.inl ⟨rfl,rfl,rfl⟩⟩
 have key: ∀i j,∃z:Int,i<len→∀k,ks[j]? =some k→w.cell? (a.add (i*ks.length+j))=some (cellV k z)∧cellWf k z:=by
  intro i j;by_cases hi:i<len
  ·cases hk:ks[j]? with
   | none=>exact⟨0,fun _ k hk'=>by cases hk'⟩
   | some k=>
    have h1:=hel i hi;have hg:elems[i]? =some (elems[i]'(by omega)):=List.getElem?_eq_getElem (by omega);rw [hg,Option.bind_eq_some_iff]at h1;obtain⟨cs',hcs,htr⟩:=h1;obtain⟨v,hv,z,rfl,hz⟩:=flatA_trod he ⟨_,_,htr⟩ j k hk;obtain⟨_,hcl,hat⟩:=World.cells?_some hcs;have hjl:j<ks.length:=(List.getElem?_eq_some_iff.1 hk).1;refine⟨z,fun _ k' hk'=>?_⟩;cases hk';refine⟨?_,hz⟩;have:=hat j (by rw [hc];exact hjl);rw [hv,hc,addr_add_add]at this;exact this
  ·exact⟨0,fun h=>absurd h hi⟩
 refine⟨some a,len,cap,fun i j=>(key i j).choose,rfl,.inr ⟨a,rfl,hl,hm,fun i hi j k hk=>(key i j).choose_spec hi k hk⟩⟩
def colsOfLay:List (Option IntKind×Nat)→(Nat→Nat→Int)→List (Nat→List Value)
 | [],_=>[]
 | (k,n)::r,F=>(match k with
  | some k=>colI k n fun m=>F (m/n) (m%n)
  | none=>colB n fun m=>F (m/n) (m%n))::colsOfLay r fun i j=>F i (n+j)
theorem colsOfLay_at: ∀{l:List (Option IntKind×Nat)} {F:Nat→Nat→Int} {i:Nat},((colsOfLay l F).flatMap fun c=>c i)=layV l (F i)
 | [],_,_=>rfl
 | (k,n)::r,F,i=>by
  simp only [colsOfLay,List.flatMap_cons,layV,colsOfLay_at (l:=r)];congr 1;rw [segV_eq];cases k<;>
  ·simp only [colI,colB,segCells,cellV];refine List.map_congr_left fun j hj=>?_
   have hj:=List.mem_range.1 hj;rw [Nat.mul_comm i n,Nat.mul_add_div (by omega),Nat.mul_add_mod,Nat.div_eq_of_lt hj,Nat.mod_eq_of_lt hj,Nat.add_zero]
theorem colsOfTab_lay: ∀{l:List (Option IntKind)} {F:Nat→Nat→Int} {i:Nat},((colsOfTab l F).flatMap fun c=>c i)=(List.range l.length).map fun j=>cellV (l.getD j none) (F i j)
 | [],_,_=>rfl
 | k::r,F,i=>by
  simp only [colsOfTab,List.flatMap_cons,colOf_eq,colsOfTab_lay (l:=r)];rw [List.length_cons,List.range_succ_eq_map];simp [Function.comp_def]
theorem tab_lay{l:List (Option IntKind×Nat)}{F:Nat→Nat→Int}{n:Nat}:tabL n (colsOfTab (layCells l) F)=tabL n (colsOfLay l F):=by
 unfold tabL;rw [List.flatMap_def,List.flatMap_def];congr 1;refine List.map_congr_left fun i _=>?_
 rw [colsOfLay_at,colsOfTab_lay];apply List.ext_getElem?;intro j;rw [layV_at];by_cases hj:j<(layCells l).length
 ·simp [hj]
 ·simp [hj]
theorem owns_lay{l:List (Option IntKind×Nat)}{w:World}{a:Option Addr}{len cap:Nat}{F:Nat→Nat→Int}(h:IsTab (layCells l) w a len cap F)(hk:0<(layCells l).length)(t:Nat):
  Owns ([sliHP false t (layCells l).length (.slice a len cap) len (tabL len (colsOfLay l F))]++[keptHP w.heap.size w]) w:=by
 rw [←tab_lay];exact owns_tab h hk t
end Go.RX
