/- Executor. -/
import Derived.Test.YtmgbbbmdbpbeeaaGreatM04
import Derived.Maps.AppendAt
import Derived.Great.BuildSlice
open Array renaming length_toList → ajv
open Bool renaming and_eq_true → ai
open Go.Builtin renaming append_ → ajc
open Go.Instr renaming sliceBounds → ajB
open Go.Result renaming andThen_ok → aiU
open Go.Sem renaming run_bind → ai2, run_pure → ajd
open Int renaming toNat → ag
open List renaming append_assoc → ajs, eq_nil_of_length_eq_zero → ai6, map_congr_left → ajq, map_cons → ajb, mem_filter → aja, mem_range → ai8
open Nat renaming mod_eq_of_lt → ajm
open Option renaming getD_some → ajh, map_eq_some_iff → aiO, map_some → ajI
open Option.some renaming injEq → aiP
open Prod.mk renaming injEq → ajA
namespace Go.RX
structure sR (ρ:Env) (look:Nat→Option SV) (bH:Operand→Value):Prop where
 tmp: ∀s v,look s=some v→bH (.tmp s)=v.val ρ
 const: ∀v,bH (.const v)=v
 func: ∀f,bH (.func f)= .func (.func f) #[] #[]
section
variable {P:Program} {ρ:Env} {w:World} {look:Nat→Option SV} {bH:Operand→Value}
theorem eJ(h:sR ρ look bH){x:Operand}{v:SV}(he:iJ look x=some v):bH x=v.val ρ:=by
 cases x with
 | tmp t=>exact h.tmp t v he
 | const c=>rw [h.const];exact(pB ρ c v he).symm
 | global g=>cases he
 | func f=>
  simp only [iJ,aiP]at he;subst he;rw [h.func];rfl
theorem kA(h:sR ρ look bH): ∀(xs:List Operand) (vs:List SV),jm (xs.map (iJ look))=some vs→xs.map bH=SV.bH ρ vs
 | [],vs,he=>by simp [jm]at he;subst he;rfl
 | x::r,vs,he=>by
  simp only [ajb]at he;cases hx:iJ look x with
  | none=>rw [hx]at he;simp [jm]at he
  | some v=>
   rw [hx]at he;simp only [jm,aiO]at he;obtain⟨rs,o7,rfl⟩:=he;simp only [ajb,SV.bH,eJ h hx,kA h r rs o7]
inductive eT (ρ:Env):List (Nat×List SV)→List (Nat×Value)→Prop
 | nil:eT ρ [] []
 | cons {i cs v r s}:v.cells.toList=SV.aA ρ cs→eT ρ r s→eT ρ ((i,cs)::r) ((i,v)::s)
theorem oh(h:sR ρ look bH)(nZ:ρ.Ok): ∀(xs:List (Nat×Operand)) (ps:List (Nat×List SV)),partsOf look xs=some ps→
  eT ρ ps (xs.map fun x=>(x.1,bH x.2))
 | [],ps,he=>by simp [partsOf]at he;subst he;exact .nil
 | (i,x)::r,ps,he=>by
  unfold partsOf at he;split at he
  ·rename_i v rest hv hr;rw [aiO]at he;obtain⟨cs,mw,rfl⟩:=he;refine .cons ?_ (oh h nZ r rest hr);rw [eJ h hv];exact(ir ρ mw nZ).1
  ·cases he
theorem qF(place:Nat→Option (Nat×Nat)): ∀{ps:List (Nat×List SV)} {vs:List (Nat×Value)},eT ρ ps vs→
  ∀{cells xJ:List SV} {arr:Array Value},j_ place cells ps=some xJ→arr.toList=SV.aA ρ cells→
  ∃r,Instr.fill place arr vs=some r∧r.toList=SV.aA ρ xJ
 | _,_,.nil,cells,xJ,arr,h,ha=>by
  simp only [j_,aiP]at h;subst h;exact⟨arr,by rw [Instr.fill],ha⟩
 | _,_,.cons (i:=i) (cs:=cs) (v:=v) (r:=r) (s:=s) hv hr,cells,xJ,arr,h,ha=>by
  unfold j_ at h;split at h
  ·rename_i off size M5;split at h
   ·rename_i hlen;split at h
    ·rename_i aa1 pG;obtain⟨hc,hle⟩:=ob ρ pG;have eS:v.cells.size=size:=by
      rw [←ajv,hv,bw];exact hlen
     have af2:arr.size=(SV.aA ρ cells).length:=by rw [←ajv,ha]
     have dz:(SV.aA ρ cs).length=size:=by rw [←hv];simpa using eS
     obtain⟨g1,g2⟩:=Great.foldl_set off v.cells.toList 0 arr;unfold Instr.fill;simp only [M5,eS];rw [if_neg (by simp;omega)];refine qF place hr h ?_;rw [hc];apply List.ext_getElem?;intro k;rw [Array.getElem?_toList];have e1: ∀(cs0:Array Value),((v.cells.zipIdx).foldl (fun cs (x:Value×Nat)=>cs.setIfInBounds (off+x.2) x.1) cs0)=((v.cells.toList.zipIdx 0).foldl (fun cs (x:Value×Nat)=>cs.setIfInBounds (off+x.2) x.1) cs0):=by
      intro cs0;rw [←Array.foldl_toList,Array.toList_zipIdx]
     have e2:=g2 k;rw [←e1 arr]at e2;refine Eq.trans e2 ?_;simp only [Nat.add_zero,ajv,eS];rw [ajs,List.getElem?_append,List.getElem?_append,List.length_take,Nat.min_eq_left (by omega),dz,List.getElem?_take,List.getElem?_drop,←ha,←hv];by_cases h1:k<off
     ·rw [if_neg (by omega),if_pos h1,if_pos h1];simp
     ·rw [if_neg h1];by_cases h2:k<off+size
      ·rw [if_pos ⟨by omega,h2,by omega⟩,if_pos (by omega)]
      ·rw [if_neg (by omega),if_neg (by omega)];have:off+size+(k - off - size)=k:=by omega
       rw [this];simp
    ·cases h
   ·cases h
  ·cases h
end
def G2(ρ:Env)(nb r:Nat):Ck→Option HP
 | .row b true cs=>if b=nb then some (al r true (SV.aA ρ cs))else none
 | .map b kl ka va z has aD=>if b=nb then some (vn r kl ka va (SV.aA ρ z) (fun i=> !(has.den ρ i==0)) fun i=>(aD.map (bR.cells ρ)).flatMap fun c=>c i)else none
 | .sJ b kl ka va z es=>if b=nb then some (vn r kl ka va (SV.aA ρ z) (fun i=>pI es i) fun i=>SV.aA ρ (mT es z i))else none
 | .IL b t e n a=>if b=nb then some (Tc r t e (aj .u8 (n.den ρ 0).toNat (a.den ρ)))else none
 | .Td b l p=>if b=nb then some (Tb r l p)else none
 | _=>none
def sx(P:Program)(ρ:Env)(w:World)(hp:List Ck)(S:Nat→Nat→Prop)(nb nv:Nat)(run:Result Next)(res:hU):Prop:=
 match res.hZ with
 | .none=>run= .ok (.value (res.val.val ρ)) w
 | .new ck=> ∃w' WB,G2 ρ nb w.heap.size ck=some WB∧run= .ok (.value (res.val.val (ρ.mj w.heap.size))) w'∧fZ w w'∧w'.heap.size=w.heap.size+1∧
   (∀k,k<w.heap.size→w'.heap[k]? =w.heap[k]?)∧WB.p w' (fun k=>k=w.heap.size)
 | .set j ck=> ∃w',(run= .ok (.value (res.val.val ρ)) w'∨(res.val= .undef∧run= .ok .skip w'))∧IV P w ρ hp S j ck w'
 | .app j ck=> ∃t s n aD v w' S',ck= .bK true nv t s n aD∧res.val= .vv nv∧run= .ok (.value v) w'∧v.oneCell'=true∧
   (∃Qz,hp[j]? =some Qz∧(Qz.den ρ).wr=true)∧fZ w w'∧(∀k,k<w.heap.size→¬S j k→w'.heap[k]? =w.heap[k]?)∧
   (aG true t s v (n.den ρ 0).toNat (aK ρ (n.den ρ 0).toNat aD)).p w' S'∧∀k,S' k→S j k∨(w.heap.size≤k∧k<w'.heap.size)
 | .own ck=> ∃t s n aD v w' S',ck= .bK true nv t s n aD∧res.val= .vv nv∧run= .ok (.value v) w'∧v.oneCell'=true∧fZ w w'∧(∀k,k<w.heap.size→w'.heap[k]? =w.heap[k]?)∧
   (aG true t s v (n.den ρ 0).toNat (aK ρ (n.den ρ 0).toNat aD)).p w' S'∧∀k,S' k→w.heap.size≤k∧k<w'.heap.size
 | .DH ck=> ∃t s n aD v w' S',ck= .bK false nv t s n aD∧res.val= .vv nv∧run= .ok (.value v) w'∧v.oneCell'=true∧fZ w w'∧(∀k,k<w.heap.size→w'.heap[k]? =w.heap[k]?)∧
   (aG false t s v (n.den ρ 0).toNat (aK ρ (n.den ρ 0).toNat aD)).p w' S'∧∀k,S' k→w.heap.size≤k∧k<w'.heap.size
section
variable {P:Program} {ρ:Env} {w:World} {look:Nat→Option SV} {bH:Operand→Value} {hp:List Ck} {S:Nat→Nat→Prop} {nb nv:Nat} {T:List TI}
theorem lA(ρ:Env)(b:Nat):(ρ.mj b).bv[ρ.bv.length]?.getD 0=b:=by
 simp [Env.mj]
theorem qG(w:World)(cs:Array Value)(e:TypeId)(l:List Value)(hl:cs.toList=l):
  fZ w (w.alloc (.cells cs e))∧(w.alloc (.cells cs e)).heap.size=w.heap.size+1∧(∀k,k<w.heap.size→(w.alloc (.cells cs e)).heap[k]? =w.heap[k]?)∧
   (al w.heap.size true l).p (w.alloc (.cells cs e)) (fun k=>k=w.heap.size):=by
 subst hl;refine⟨⟨rfl,rfl,rfl,by simp⟩,by simp,fun k hk=>heap_alloc_old w _ hk,fun k=>Iff.rfl,e,(0,0),?_,fun _=>rfl⟩;have hn:=heap_alloc_new w (.cells cs e);simpa using hn
theorem DX(hT:bD P T=true)(DY:ρ.bv.length=nb){t:TypeId}{ti:TI}(ht:aU T t=some ti):
  sx P ρ w hp S nb nv ((do pure (.value (←Instr.alloc t true (.tuple #[]))):Sem Next).run P w) {val:= .ptr nb 0,hZ:= .new (.row nb true ti.zero)}:=by
 obtain⟨rfl,cK⟩:=aE hT ht;obtain⟨z,hz,hc⟩:=cK.zero w;obtain⟨h1,h2,h3,h4⟩:=qG w z.cells ti.t (SV.aA ρ ti.zero) (hc ρ).symm;refine⟨_,_,if_pos rfl,?_,h1,h2,h3,h4⟩;subst DY;simp [Instr.alloc,hz,newVar,newRow,SV.val,lA]
theorem Ky(hT:bD P T=true)(DY:ρ.bv.length=nb){t:TypeId}{ti:TI}(ht:aU T t=some ti)(e:Nat)(Xp:SV.aA ρ ti.zero=[.pointer none,.slice none 0 0]):
  sx P ρ w hp S nb nv ((do pure (.value (←Instr.alloc t true (.tuple #[]))):Sem Next).run P w) {val:= .ptr nb 0,hZ:= .new (.IL nb t e (.lit 0) (.lit 0))}:=by
 obtain⟨rfl,cK⟩:=aE hT ht;obtain⟨z,hz,hc⟩:=cK.zero w;obtain⟨h1,h2,h3,h4⟩:=qG w z.cells ti.t (SV.aA ρ ti.zero) (hc ρ).symm;refine⟨_,_,if_pos rfl,?_,h1,h2,h3,?_⟩
 ·subst DY;simp [Instr.alloc,hz,newVar,newRow,SV.val,lA]
 ·have Ac:z.cells= #[.pointer none,.slice none 0 0]:=Array.ext' (by rw [←hc ρ,Xp]);refine⟨.pointer none,.slice none 0 0,?_,.inl rfl,?_,by simp [Value.ownBlock],fun k=>by simp [Value.ownBlock]⟩
  ·have hn:=heap_alloc_new w (.cells z.cells ti.t);rw [Ac]at hn;rw [Ac];exact hn
  ·simp only [E.den,Int.toNat_zero,aj,List.range_zero,List.map_nil,List.length_nil];exact World.ownsRow_nil _ 0 e 1
theorem Kz(nZ:ρ.Ok)(DY:ρ.bv.length=nb){t:TypeId}{v:SV}{cs:List SV}(mw:ej v=some cs):
  sx P ρ w hp S nb nv ((do pure (.value (←Instr.box t (v.val ρ))):Sem Next).run P w) {val:= .ptr nb 0,hZ:= .new (.row nb true cs)}:=by
 obtain⟨h1,h2,h3,h4⟩:=qG w (v.val ρ).cells t (SV.aA ρ cs) (ir ρ mw nZ).1;refine⟨_,_,if_pos rfl,?_,h1,h2,h3,h4⟩;subst DY;simp [Instr.box,newVar,newRow,SV.val,lA]
theorem yi{ti:TI}(cK:kr P ti){cs x:List SV}{off:Nat}{v:SV}(hx:jl off ti.size cs=some x)(hv:iF ti.k.agg x=some v):
  (part ti.t (SV.aA ρ cs).toArray off).run P w= .ok (v.val ρ) w:=by
 obtain⟨h1,h2⟩:=eD ρ hx;obtain⟨h3,h4⟩:=mB ρ hv;cases ha:ti.k.agg with
 | true=>
  simp only [part,ai2,cK.isAgg w,ha,aiU,if_true,cK.sizeOf w,ajd,h3 ha,h1];congr 3;apply Array.ext';simp [List.extract_eq_take_drop]
 | false=>
  have h5:=h4 ha;rw [h1]at h5;have h6:(SV.aA ρ cs)[off]? =some (v.val ρ):=by
   have:(((SV.aA ρ cs).drop off).take ti.size)[0]? =some (v.val ρ):=by rw [h5];rfl
   rw [List.getElem?_take,List.getElem?_drop]at this;split at this
   ·simpa using this
   ·cases this
  simp [part,cK.isAgg w,ha,h6]
theorem vD(hT:bD P T=true): ∀(fs:List Field) (l:List (Nat×Nat)),fs.map (fun f=>(f.type,f.offset))=l→pJ T l=true→
  ∃G3,fs.mapM (fun f=>(P.info? f.type).map fun i=>(f.offset,i.size))=some G3∧∀i,G3[i]? =gG T l i
 | [],l,h,_=>by
  subst h;exact⟨[],rfl,fun i=>by simp [gG]⟩
 | f::r,l,h,ha=>by
  subst h;simp only [pJ,ajb,List.all_cons,ai]at ha;obtain⟨p,hp,M5⟩:=vD hT r _ rfl (by simpa [pJ] using ha.2);obtain⟨ti,cK⟩:=Option.isSome_iff_exists.1 ha.1;obtain⟨ht,hi⟩:=aE hT cK;obtain⟨i,h1,h2,_⟩:=hi.info;rw [ht]at h1;refine⟨(f.offset,i.size)::p,?_,fun k=>?_⟩
  ·simp [List.mapM_cons,h1,hp]
  ·cases k with
   | zero=>simp [gG,cK,h2]
   | succ k=>rw [List.getElem?_cons_succ,M5 k];simp [gG]
theorem rV(hT:bD P T=true){ti:TI}{t:TypeId}(ht:aU T t=some ti){fs:List (Nat×Nat)}(hk:ti.k= .struct fs)(uz:pJ T fs=true)
  {ps:List (Nat×List SV)} {vs:Array (Nat×Value)} (hm:eT ρ ps vs.toList) {cs:List SV} (hf:j_ (gG T fs) ti.zero ps=some cs):
  (Instr.build t vs).run P w= .ok (.agg (SV.aA ρ cs).toArray) w:=by
 obtain⟨rfl,cK⟩:=aE hT ht;obtain⟨i,hi,_,_,z,hz,hc⟩:=cK.info;have cO:=cK.kind;rw [hk]at cO;obtain⟨fa,hu,QF⟩:=mF cO;obtain⟨G3,hp,M5⟩:=vD hT fa.toList fs QF uz;obtain⟨r,hr,Uy⟩:=qF (ρ:=ρ) (gG T fs) hm hf (hc ρ).symm;have hb:P.built ti.t vs.toList=some r:=by
  unfold Program.built;simp only [hi,hu,hz,hp];rw [←hr];congr 1;funext k;rw [←M5 k];simp
 rw [run_build w ti.t vs r hb];congr 2;exact Array.ext' (by simpa using Uy)
theorem wL(hT:bD P T=true){ti te:TI}{t:TypeId}(ht:aU T t=some ti){n e:Nat}(hk:ti.k= .arr n e)(gP:aU T e=some te)
  {ps:List (Nat×List SV)} {vs:Array (Nat×Value)} (hm:eT ρ ps vs.toList) {cs:List SV} (hf:j_ (jX te.size) ti.zero ps=some cs):
  (Instr.build t vs).run P w= .ok (.agg (SV.aA ρ cs).toArray) w:=by
 obtain⟨rfl,cK⟩:=aE hT ht;obtain⟨rfl,KA⟩:=aE hT gP;obtain⟨i,hi,_,_,z,hz,hc⟩:=cK.info;obtain⟨ie,wM,WC,_⟩:=KA.info;have cO:=cK.kind;rw [hk]at cO;have hu:=nJ cO;obtain⟨r,hr,Uy⟩:=qF (ρ:=ρ) (jX te.size) hm hf (hc ρ).symm;have hb:P.built ti.t vs.toList=some r:=by
  unfold Program.built;simp only [hi,hu,hz,wM,WC];exact hr
 rw [run_build w ti.t vs r hb];congr 2;exact Array.ext' (by simpa using Uy)
theorem KB(n:Nat)(l:List SV):SV.aA ρ (List.replicate n l).flatten=(List.replicate n (SV.aA ρ l)).flatten:=by
 induction n with
 | zero=>rfl
 | succ n ih=>rw [List.replicate_succ,List.replicate_succ,List.flatten_cons,List.flatten_cons,im,ih]
theorem sS(z:Array Value)(len:Nat)(_:0<z.size):((Array.range (len*z.size)).map (z[· %z.size]!)).toList=(List.replicate len z.toList).flatten:=by
 rw [Array.toList_map,Array.toList_range]
 induction len with
 | zero=>simp
 | succ n ih=>
  rw [List.replicate_succ',List.flatten_append,←ih,Nat.add_mul,Nat.one_mul,List.range_add,List.map_append];congr 1;rw [List.map_map,List.flatten_singleton];apply List.ext_getElem
  ·simp
  ·intro i h1 h2;have hi:i<z.size:=by simpa using h2
   simp [Nat.add_mod,ajm hi,hi]
theorem uC(hT:bD P T=true)(DY:ρ.bv.length=nb){ti te:TI}{t:TypeId}(ht:aU T t=some ti){e:Nat}(hk:ti.k= .slice e)(gP:aU T e=some te){len:Nat}
  (hlen: ¬(len=0∨te.size=0∨1000<len*te.size)) {ps:List (Nat×List SV)} {vs:Array (Nat×Value)} (hm:eT ρ ps vs.toList) {cs:List SV}
  (hf:j_ (jX te.size) (List.replicate len te.zero).flatten ps=some cs):
  sx P ρ w hp S nb nv ((do pure (.value (←Instr.buildSlice t len vs)):Sem Next).run P w)
   {val:= .sl nb (.lit 0) te.size (.lit len) (.lit len),hZ:= .new (.row nb true cs)}:=by
 obtain⟨rfl,cK⟩:=aE hT ht;obtain⟨rfl,KA⟩:=aE hT gP;obtain⟨ie,wM,WC,_,z,hz,hc⟩:=KA.info;have cO:=cK.kind;rw [hk]at cO;have hu:=bM cO;have pe:z.cells.size=te.size:=by
  rw [←ajv,←hc ρ,bw,KA.z9]
 have M6:((Array.range (len*ie.size)).map (z.cells[· %z.cells.size]!)).toList=SV.aA ρ (List.replicate len te.zero).flatten:=by
  rw [KB,hc ρ,WC,←pe];exact sS _ _ (by omega)
 obtain⟨r,hr,Uy⟩:=qF (ρ:=ρ) (jX te.size) hm hf M6;have od: ¬len*ie.size=0:=by rw [WC];simp only [Nat.mul_eq_zero];omega
 have hb:=run_buildSlice (P:=P) w ti.t te.t len vs r ie z hu wM hz (by rw [WC];omega) od (by rw [←hr,WC];rfl);obtain⟨h1,h2,h3,h4⟩:=qG w r te.t (SV.aA ρ cs) Uy;refine⟨_,_,if_pos rfl,?_,h1,h2,h3,h4⟩;subst DY;simp [hb,SV.val,lA,E.den]
end
section
variable {P:Program} {ρ:Env} {w:World} {look:Nat→Option SV} {bH:Operand→Value} {hp:List Ck} {S:Nat→Nat→Prop} {nb nv:Nat} {T:List TI}
theorem cn{i:E}{n:Nat}(h:eR i=some n):i.den ρ 0=n:=by
 unfold eR at h;split at h
 ·cases h;rfl
 ·cases h
theorem uD(b:Nat)(i:E)(s c:Nat):(DZ b i s c).val ρ= .pointer (some ⟨ρ.bv.getD b 0,(i.den ρ 0).toNat*s+c,none⟩):=by
 unfold DZ;split
 ·rename_i n hn;simp [SV.val,cn hn]
 ·rfl
theorem sU(hT:bD P T=true){s:TypeId}{ts ti:TI}(hs:aU T s=some ts){fs:List (Nat×Nat)}(hk:ts.k= .struct fs){f t off:Nat}
  (hf:fs[f]? =some (t,off)) (ht:aU T t=some ti) (eS: ¬ti.size=0) (a:Addr):
  (Instr.fieldAt s (.pointer (some a)) f).run P w= .ok (.pointer (some (a.add off))) w:=by
 obtain⟨rfl,sy⟩:=aE hT hs;obtain⟨rfl,cK⟩:=aE hT ht;have cO:=sy.kind;rw [hk]at cO;obtain⟨fa,hu,QF⟩:=mF cO;subst QF;rw [List.getElem?_map,aiO]at hf;obtain⟨fd,Tl,he⟩:=hf;rw [Array.getElem?_toList]at Tl;simp only [ajA]at he;have h1:(Go.sizeOf fd.type).run P w= .ok ti.size w:=by rw [he.1];exact cK.sizeOf w
 simp [Instr.fieldAt,run_underlying hu,Tl,Instr.sureAddr,fieldPlace,h1,eS,he.2]
theorem wN(hT:bD P T=true){s:TypeId}{ts ti:TI}(hs:aU T s=some ts){fs:List (Nat×Nat)}(hk:ts.k= .struct fs){f t off:Nat}
  (hf:fs[f]? =some (t,off)) (ht:aU T t=some ti) {cs x:List SV} {v:SV} (hx:jl off ti.size cs=some x) (hv:iF ti.k.agg x=some v):
  (Instr.field s (.agg (SV.aA ρ cs).toArray) f).run P w= .ok (v.val ρ) w:=by
 obtain⟨rfl,sy⟩:=aE hT hs;obtain⟨rfl,cK⟩:=aE hT ht;have cO:=sy.kind;rw [hk]at cO;obtain⟨fa,hu,QF⟩:=mF cO;subst QF;rw [List.getElem?_map,aiO]at hf;obtain⟨fd,Tl,he⟩:=hf;rw [Array.getElem?_toList]at Tl;simp only [ajA]at he;have h1:=yi (ρ:=ρ) (w:=w) cK hx hv;rw [←he.1,←he.2]at h1;simp [Instr.field,run_underlying hu,Tl,asAgg,h1]
theorem pK(hT:bD P T=true){t:TypeId}{tt te:TI}(ht:aU T t=some tt){e:Nat}(hk:tt.k= .slice e)(gP:aU T e=some te)
  (a:Addr) (n c:Nat) (k:IntKind) (j:Int) (h0:0≤j) (h1:j<n):
  (Instr.indexAt t (.slice (some a) n c) (.int k j)).run P w= .ok (.pointer (some (a.add (j.toNat*te.size)))) w:=by
 obtain⟨rfl,sy⟩:=aE hT ht;obtain⟨rfl,cK⟩:=aE hT gP;have cO:=sy.kind;rw [hk]at cO;have hu:=bM cO;simp [Instr.indexAt,run_underlying hu,asIntOf,h0,h1,cK.sizeOf w]
theorem yj(hT:bD P T=true){t:TypeId}{tt te:TI}(ht:aU T t=some tt){n e:Nat}(hk:tt.k= .arr n e)(gP:aU T e=some te)
  (a:Addr) (k:IntKind) (j:Int) (h0:0≤j) (h1:j<n):
  (Instr.indexAt t (.pointer (some a)) (.int k j)).run P w= .ok (.pointer (some (a.add (j.toNat*te.size)))) w:=by
 obtain⟨rfl,sy⟩:=aE hT ht;obtain⟨rfl,cK⟩:=aE hT gP;have cO:=sy.kind;rw [hk]at cO;have hu:=nJ cO;simp [Instr.indexAt,run_underlying hu,asIntOf,Instr.sureAddr,h0,h1,cK.sizeOf w]
theorem sV(hT:bD P T=true){t:TypeId}{tt te:TI}(ht:aU T t=some tt){n e:Nat}(hk:tt.k= .arr n e)(gP:aU T e=some te)
  (cs:Array Value) (k:IntKind) (j:Int) (h0:0≤j) (h1:j<n) {v:Value} (hp:(part te.t cs (j.toNat*te.size)).run P w= .ok v w):
  (Instr.index t (.agg cs) (.int k j)).run P w= .ok v w:=by
 obtain⟨rfl,sy⟩:=aE hT ht;obtain⟨rfl,cK⟩:=aE hT gP;have cO:=sy.kind;rw [hk]at cO;have hu:=nJ cO;simp [Instr.index,run_underlying hu,asIntOf,h0,h1,cK.sizeOf w,hp]
theorem om(hT:bD P T=true){t:TypeId}{tt:TI}(ht:aU T t=some tt){e:Nat}(hk:tt.k= .slice e)(a:Option Addr)(n c:Nat)(ty:TypeId):
  (Builtin.len_ #[t] ty #[.slice a n c]).run P w= .ok (goInt n) w:=by
 obtain⟨rfl,sy⟩:=aE hT ht;have cO:=sy.kind;rw [hk]at cO;have hu:=bM cO;simp [Builtin.len_,run_underlying hu]
theorem yl(hT:bD P T=true){t:TypeId}{tt:TI}(ht:aU T t=some tt)(hk:tt.k= .str)(s:ByteArray)(ty:TypeId):
  (Builtin.len_ #[t] ty #[.string s]).run P w= .ok (goInt s.size) w:=by
 obtain⟨rfl,sy⟩:=aE hT ht;have cO:=sy.kind;rw [hk]at cO;have hu:P.underlying tt.t=some .string:=by
  unfold gY at cO;split at cO<;>simp_all
 simp [Builtin.len_,run_underlying hu]
theorem D0(aD:List bR)(n:Nat):aK ρ (n+1) aD=aK ρ n aD++rowAt ρ aD n:=by
 unfold aK aW rowAt;rw [List.range_succ,List.flatMap_append];simp
theorem KC(c1 c2:List bR)(n:Nat)(h: ∀i,i<n→rowAt ρ c1 i=rowAt ρ c2 i):aK ρ n c1=aK ρ n c2:=by
 unfold aK aW;unfold rowAt at h;rw [List.flatMap_def,List.flatMap_def];congr 1;exact ajq fun i hi=>h i (ai8.1 hi)
theorem oS(t ty e:TypeId)(i:TypeInfo)(z:Value)(size bytes:Nat)(ht:P.underlying t=some (.slice e))(hi:P.info? e=some i)(hz:i.zero=some z)
  (ji:i.size=size) (ue:i.bytes=bytes) (pe:z.cells.size=size)
  (b:Addr) (n:Nat) (xs:List Value) (GU:xs.length=n*size) (holds: ∀j u,xs[j]? =some u→w.cell? (b.add j)=some u)
  (a:Addr) (m c:Nat) (hm:0<m) (news:List Value) (hl:news.length=m*size) (D1: ∀j u,news[j]? =some u→w.cell? (a.add j)=some u)
  (P6:n+m≤maxLen) (oo:(n+m)*bytes≤140737488355328):
  ∃v' w',(ajc #[t,t] ty #[.slice (some b) n n,.slice (some a) m c]).run P w= .ok v' w'∧w'.ic e size v' (n+m) (xs++news)∧w.grownBy w' none∧v'.ownBlock=some w.heap.size:=by
 subst ji;subst ue;have hlen:(xs++news).length=(n+m)*i.size:=by rw [List.length_append,GU,hl,Nat.add_mul]
 have jI:=grownCap_ge w (n+m) n e;have M7:grownCap w (n+m) n e≤maxLen:=grownCap_le_maxLen w (n+m) n e P6;have hr:=run_append_grow (P:=P) w t ty e i z ht hi hz b n n xs GU holds a m c news hl D1 (by omega) (by simp only [maxLen]at P6;omega) (growslice_fits (by omega) oo);refine⟨_,_,hr,⟨hlen,.inr ⟨w.heap.size,0,_,_,rfl,⟨e,_,heap_alloc_new w.drew _,.zero _⟩,jI,M7,?_,?_⟩⟩,⟨rfl,rfl,rfl,by simp,fun k hk _=>heap_alloc_old w.drew _ hk⟩,rfl⟩
 ·simp only [Array.size_append,List.size_toArray,size_zeroCells,pe,GU,hl,←Nat.add_mul,Nat.zero_add];intro _;apply Nat.le_of_eq;congr 1;omega
 ·simp only [Array.toList_append,List.drop_zero]
  first
   | (rw [←hlen];exact List.take_left)
   | (rw [ajs,←ajs,←hlen];exact List.take_left)
theorem mU(t ty e:TypeId)(i:TypeInfo)(z:Value)(size bytes:Nat)(ht:P.underlying t=some (.slice e))(hi:P.info? e=some i)(hz:i.zero=some z)
  (ji:i.size=size) (ue:i.bytes=bytes) (pe:z.cells.size=size) (eS:0<size)
  (v:Value) (n:Nat) (xs:List Value) (cI:w.ic e size v n xs)
  (a:Addr) (m c:Nat) (news:List Value) (hl:news.length=m*size) (D1: ∀j u,news[j]? =some u→w.cell? (a.add j)=some u) (h1: ∀u∈news,u.oneCell'=true)
  (P6:n+m≤maxLen) (oo:(n+m)*bytes≤140737488355328):
  ∃v' w',(ajc #[t,t] ty #[v,.slice (some a) m c]).run P w= .ok v' w'∧w'.ic e size v' (n+m) (xs++news)∧w.grownBy w' v.ownBlock∧
   (v'.ownBlock=v.ownBlock∨v'.ownBlock=some w.heap.size):=by
 rcases cI.2 with⟨rfl,rfl⟩ | ⟨g,o,cap,cur,rfl,⟨t',fz,hg,GV⟩,Dg,P4,mw,Dh⟩
 ·have hx:xs=[]:=ai6 (by simpa using cI.1);subst hx;obtain⟨v',w',r1,r2,r3,_,r5⟩:=run_append_own_at (P:=P) w 0 t ty e i z size bytes ht hi hz ji ue pe eS (.slice none 0 0) 0 [] (World.ownsRow_nil w 0 e size) a m c news hl D1 h1 P6 oo (Nat.zero_le _);exact⟨v',w',r1,Kh r2,r3,r5⟩
 ·subst ji;subst ue;have hlen:(xs++news).length=(n+m)*i.size:=by rw [List.length_append,cI.1,hl,Nat.add_mul]
  by_cases pL:n+m≤cap
  ·by_cases KD:m=0
   ·subst KD;have:news=[]:=ai6 (by simpa using hl);subst this;refine⟨_,w,?_,by simpa using cI,⟨rfl,rfl,rfl,Nat.le_refl _,fun _ _ _=>rfl⟩,.inl rfl⟩;simp [ajc,run_underlying ht,sizeOf,typeInfo,hi,Builtin.lenOf,Builtin.firstCells,Dg,storeCells,loadCells,loadCellsFrom]
   have mw:=mw (by omega);have hmul:(n+m)*i.size≤cap*i.size:=Nat.mul_le_mul_right _ pL;rw [Nat.add_mul]at hmul;have rW:o+n*i.size+news.length≤cur.size:=by omega
   have hfc:=run_firstCells_some (P:=P) w i.size m a m c news hl D1;have zU:=eE (P:=P) g (o+n*i.size) t' fz news 0 cur w hg GV (by simpa using rW) h1;simp only [Nat.add_zero]at zU;have hr:(ajc #[t,t] ty #[.slice (some ⟨g,o,none⟩) n cap,.slice (some a) m c]).run P w= .ok (.slice (some ⟨g,o,none⟩) (n+m) cap) (w.setRow g (cur.toList.take (o+n*i.size)++news++cur.toList.drop (o+n*i.size+news.length)).toArray):=by
    simp [ajc,run_underlying ht,sizeOf,typeInfo,hi,Builtin.lenOf,pL,hfc,eB,zU]
   refine⟨_,_,hr,⟨hlen,.inr ⟨g,o,cap,_,rfl,⟨t',fz,setRow_heap w g cur _ t' _ hg,by refine Eq.mp (congrArg (rm · fz) ?_) GV;simp only [List.size_toArray,List.length_append,List.length_take,List.length_drop,ajv]at rW ⊢;omega⟩,pL,P4,?_,?_⟩⟩,⟨rfl,rfl,rfl,by simp,fun k _ hk=>setRow_other w g k _ (fun e=>hk (by simp [Value.ownBlock,e]))⟩,Or.inl rfl⟩
   ·simp only [List.size_toArray,List.length_append,List.length_take,List.length_drop,ajv];intro _;omega
   ·have:=pE cur.toList news o (n*i.size) ((n+m)*i.size) (by rw [Nat.add_mul];omega) (by rw [Nat.add_mul];simp;omega);simp only;rw [this,List.take_take,Nat.min_eq_left (by rw [Nat.add_mul];omega),Dh,hl,←Nat.add_mul,List.drop_eq_nil_of_le (by rw [List.length_take];exact Nat.min_le_left _ _),List.append_nil]
  ·have jI:=grownCap_ge w (n+m) cap e;have M7:grownCap w (n+m) cap e≤maxLen:=grownCap_le_maxLen w (n+m) cap e P6;have hr:=run_append_grow (P:=P) w t ty e i z ht hi hz ⟨g,o,none⟩ n cap xs cI.1 (jk cI) a m c news hl D1 (by omega) (by simp only [maxLen]at P6;omega) (growslice_fits (by omega) oo);refine⟨_,_,hr,⟨hlen,.inr ⟨w.heap.size,0,_,_,rfl,⟨e,_,heap_alloc_new w.drew _,.zero _⟩,jI,M7,?_,?_⟩⟩,⟨rfl,rfl,rfl,by simp,fun k hk _=>heap_alloc_old w.drew _ hk⟩,Or.inr rfl⟩
   ·simp only [Array.size_append,List.size_toArray,size_zeroCells,pe,cI.1,hl,←Nat.add_mul,Nat.zero_add];intro _;apply Nat.le_of_eq;congr 1;omega
   ·simp only [Array.toList_append,List.drop_zero]
    first
     | (rw [←hlen];exact List.take_left)
     | (rw [ajs,←ajs,←hlen];exact List.take_left)
theorem B_(hT:bD P T=true)(nZ:ρ.Ok){ts:TypeId}{tt te:TI}(ht:aU T ts=some tt){e:Nat}(hk:tt.k= .slice e)(gP:aU T e=some te){s:Nat}(hs:te.size=s)(ym:0<s)
  {v j j' b cap:Nat} {n:E} {aD aT:List bR} {cs:List SV} {wr:Bool} (hj:hp[j]? =some (.bK true v e s n aD)) (hS:((Ck.bK true v e s n aD).den ρ).p w (S j))
  (_:hp[j']? =some (.row b wr cs)) (KE:((Ck.row b wr cs).den ρ).p w (S j')) (hw:s=bT aD) (hlen:jY cs=s) (iz:cs.all SV.one=true) (pG:ld n cs aD=some aT)
  (h0:0≤n.den ρ 0) (G4:(n.den ρ 0+1)*(max 1 te.bytes:Nat)≤140737488355328) (ty:TypeId):
  sx P ρ w hp S nb nv ((do pure (.value (←ajc #[ts,ts] ty #[(SV.vv v).val ρ,.slice (some ⟨ρ.bv.getD b 0,0,none⟩) 1 cap])):Sem Next).run P w)
   {val:= .vv nv,hZ:= .app j (.bK true nv e s (du n (.lit 1)) aT)}:=by
 obtain⟨rfl,fc⟩:=aE hT ht;obtain⟨rfl,cK⟩:=aE hT gP;have cO:=fc.kind;rw [hk]at cO;have hu:=bM cO;obtain⟨i,hi,eS,ue,z,hz,hc⟩:=cK.info;have pe:z.cells.size=te.size:=by rw [←ajv,←hc ρ,bw,cK.z9]
 obtain⟨cI,kO⟩:=hS;simp only [if_true]at cI;have adz:((n.den ρ 0).toNat+1)*(max 1 te.bytes)≤140737488355328:=by
  have:(((n.den ρ 0).toNat+1:Nat):Int)=n.den ρ 0+1:=by omega
  rw [←this]at G4;have h2:((((n.den ρ 0).toNat+1)*(max 1 te.bytes):Nat):Int)≤((140737488355328:Nat):Int):=by rw [Int.natCast_mul];exact G4
  exact Int.ofNat_le.1 h2
 have Ca:((n.den ρ 0).toNat+1)*1≤((n.den ρ 0).toNat+1)*max 1 te.bytes:=Nat.mul_le_mul_left _ (Nat.le_max_left _ _);have AU:((n.den ρ 0).toNat+1)*te.bytes≤((n.den ρ 0).toNat+1)*max 1 te.bytes:=Nat.mul_le_mul_left _ (Nat.le_max_right _ _);obtain⟨v',w',hr,how,hg,Mn⟩:=mU (P:=P) (w:=w) tt.t ty te.t i z s te.bytes hu hi hz (by rw [eS,hs]) ue (by rw [pe,hs]) ym
  _ _ _ cI ⟨ρ.bv.getD b 0,0,none⟩ 1 cap (SV.aA ρ cs) (by rw [bw,Nat.one_mul];exact hlen)
  (fun k u hk=>iK KE 0 k u hk) (lN ρ iz nZ) (Nat.le_trans (show(n.den ρ 0).toNat+1≤140737488355328 by omega) (by unfold maxLen;omega)) (by omega)
 have fe:aK ρ ((du n (.lit 1)).den ρ 0).toNat aT=aK ρ (n.den ρ 0).toNat aD++SV.aA ρ cs:=by
  have e1:((du n (.lit 1)).den ρ 0).toNat=(n.den ρ 0).toNat+1:=by
   rw [bI];simp only [E.den];omega
  obtain⟨p1,p2,p3,p4⟩:=jq ρ pG;rw [e1,D0,p4,KC aT aD _ (fun k hk=>p3 k (by omega))];congr 1;rw [List.drop_eq_nil_of_le,List.append_nil];rw [show(rowAt ρ aD (n.den ρ 0).toNat).length=bT aD from c9 ρ aD _,bw,←hw];exact Nat.le_of_eq hlen.symm
 refine⟨te.t,s,_,aT,v',w',fun k=>v'.ownBlock=some k,rfl,rfl,by simp only [SV.val,ai2,hr,aiU,ajd],?_,⟨_,hj,rfl⟩,?_,?_,⟨?_,fun k=>⟨fun h=>⟨h,.inl rfl⟩,fun h=>h.1⟩⟩,?_⟩
 ·rcases how.2 with⟨rfl,_⟩ | ⟨g,o,cap,cur,rfl,_⟩<;>rfl
 ·exact⟨hg.os,hg.tape,hg.output,hg.size⟩
 ·intro k hk hn;refine hg.block k hk fun he=>hn ((kO k).2 ⟨he.symm,.inl rfl⟩)
 ·simp only [if_true];have e1:((du n (.lit 1)).den ρ 0).toNat=(n.den ρ 0).toNat+1:=by
   rw [bI];simp only [E.den];omega
  rw [fe,e1];exact how
 ·intro k hk;rcases Mn with h | h
  ·left;rw [kO k,←h];exact⟨hk,.inl rfl⟩
  ·right;rw [hk]at h;cases h;exact⟨Nat.le_refl _,gU how hk⟩
theorem uE(hT:bD P T=true)(nZ:ρ.Ok){ts:TypeId}{tt te:TI}(ht:aU T ts=some tt){e:Nat}(hk:tt.k= .slice e)(gP:aU T e=some te){s:Nat}(hs:te.size=s)(ym:0<s)
  {j' b cap:Nat} {aD aT:List bR} {cs:List SV} {wr:Bool}
  (KE:((Ck.row b wr cs).den ρ).p w (S j')) (hw:s=bT aD) (hlen:jY cs=s) (iz:cs.all SV.one=true) (pG:ld (.lit 0) cs aD=some aT)
  (G4:te.bytes≤140737488355328) (ty:TypeId):
  sx P ρ w hp S nb nv ((do pure (.value (←ajc #[ts,ts] ty #[SV.bU.val ρ,.slice (some ⟨ρ.bv.getD b 0,0,none⟩) 1 cap])):Sem Next).run P w)
   {val:= .vv nv,hZ:= .own (.bK true nv e s (.lit 1) aT)}:=by
 obtain⟨rfl,fc⟩:=aE hT ht;obtain⟨rfl,cK⟩:=aE hT gP;have cO:=fc.kind;rw [hk]at cO;have hu:=bM cO;obtain⟨i,hi,eS,ue,z,hz,hc⟩:=cK.info;have pe:z.cells.size=te.size:=by rw [←ajv,←hc ρ,bw,cK.z9]
 obtain⟨v',w',hr,how,hg,Mn⟩:=mU (P:=P) (w:=w) tt.t ty te.t i z s te.bytes hu hi hz (by rw [eS,hs]) ue (by rw [pe,hs]) ym
  (.slice none 0 0) 0 [] (jR w te.t s) ⟨ρ.bv.getD b 0,0,none⟩ 1 cap (SV.aA ρ cs) (by rw [bw,Nat.one_mul];exact hlen)
  (fun k u hk=>iK KE 0 k u hk) (lN ρ iz nZ) (by unfold maxLen;omega) (by omega)
 have fe:aK ρ 1 aT=SV.aA ρ cs:=by
  obtain⟨p1,p2,p3,p4⟩:=jq ρ pG;have e0:aK ρ 1 aT=aK ρ 0 aT++rowAt ρ aT 0:=D0 aT 0;rw [e0];simp only [E.den,Int.toNat_zero]at p4;rw [p4,List.drop_eq_nil_of_le,List.append_nil]
  ·simp [aK,aW]
  ·rw [show(rowAt ρ aD 0).length=bT aD from c9 ρ aD _,bw,←hw];exact Nat.le_of_eq hlen.symm
 refine⟨te.t,s,_,aT,v',w',fun k=>v'.ownBlock=some k,rfl,rfl,by simp only [SV.val,ai2,hr,aiU,ajd],?_,⟨hg.os,hg.tape,hg.output,hg.size⟩,fun k hk=>hg.block k hk (by simp [Value.ownBlock]),⟨?_,fun k=>⟨fun h=>⟨h,.inl rfl⟩,fun h=>h.1⟩⟩,?_⟩
 ·rcases how.2 with⟨rfl,_⟩ | ⟨g,o,cap,cur,rfl,_⟩<;>rfl
 ·simp only [if_true];have e1:((E.lit 1).den ρ 0).toNat=1:=rfl;rw [e1,fe];simpa using how
 ·intro k hk;rcases Mn with h | h
  ·rw [hk]at h;cases h
  ·rw [hk]at h;cases h;exact⟨Nat.le_refl _,gU how hk⟩
end
section
variable {P:Program} {ρ:Env} {w:World} {look:Nat→Option SV} {bH:Operand→Value} {hp:List Ck} {S:Nat→Nat→Prop} {nb nv:Nat} {T:List TI}
theorem a_{a b:E}(h: ∀c∈dC a b,c.prop ρ):a.den ρ 0≤b.den ρ 0:=by
 unfold dC at h;split at h
 ·rename_i he;subst he;exact Int.le_refl _
 ·have key:(xd a b).den ρ=true:=by
   by_cases hl:xd a b= .lit true
   ·rw [hl];rfl
   ·exact(BE.bZ ρ _).2 (h _ (aja.2 ⟨by simp,by simpa using hl⟩))
  rw [gW]at key;exact of_decide_eq_true key
theorem wO{a b:E}(h: ∀c∈[GR a b].filter fun b=>b != .lit true,c.prop ρ):a.den ρ 0<b.den ρ 0:=by
 have key:(GR a b).den ρ=true:=by
  by_cases hl:GR a b= .lit true
  ·rw [hl];rfl
  ·exact(BE.bZ ρ _).2 (h _ (aja.2 ⟨by simp,by simpa using hl⟩))
 rw [sM]at key;exact of_decide_eq_true key
theorem bE{α:Type}{q:α→Prop}{a b:List α}(h: ∀c∈a++b,q c):(∀c∈a,q c)∧∀c∈b,q c:=
 ⟨fun c hc=>h c (List.mem_append_left _ hc),fun c hc=>h c (List.mem_append_right _ hc)⟩
theorem kb(a:Addr):a.add 0=a:=by simp [Addr.add]
theorem Cb(a:Option Addr):a.map (·.add 0)=a:=by cases a<;>simp [kb]
structure Xq (s:Nat) (v x:Value) (n L N:Int) (mx:Option Int):Prop where
 lo:0≤L
 hi:L+N≤n
 top: ∀m,mx=some m→L+N≤m∧m≤n
 is: ∃a c k,v= .slice a n.toNat c∧n.toNat≤c∧x= .slice (a.map (·.add k)) N.toNat ((mx.map ag).getD c - L.toNat)∧(L.toNat<(mx.map ag).getD c∨L=0→k=L.toNat*s)
abbrev Part.den(ρ:Env)(p:Part):Int×Int×Option Int:=(p.lo.den ρ 0,p.len.den ρ 0,p.mx.map fun m=>m.den ρ 0)
def lQ(ρ:Env)(s:Nat)(v x:Value)(n:E)(p:Part):Prop:=Xq s v x (n.den ρ 0) (p.lo.den ρ 0) (p.len.den ρ 0) (p.mx.map fun m=>m.den ρ 0)
theorem lQ.whole{s:Nat}{v:Value}{n:E}(h: ∃a c,v= .slice a (n.den ρ 0).toNat c∧(n.den ρ 0).toNat≤c):lQ ρ s v v n ⟨.lit 0,n,none⟩:=by
 obtain⟨a,c,hv,hc⟩:=h;refine⟨by simp [E.den],by simp [E.den],by simp,a,c,0,hv,hc,?_,?_⟩
 ·rw [Cb];simpa [E.den] using hv
 ·simp [E.den]
theorem lQ.step{s:Nat}{v x:Value}{n:E}{p:Part}(h:lQ ρ s v x n p)(c:Cut)(bW: ∀b∈(mG n p c).2,b.prop ρ):
  lQ ρ s v (aC s x (c.lo.den ρ 0).toNat (c.hi.den ρ 0).toNat (c.mx.map fun m=>(m.den ρ 0).toNat)) n (mG n p c).1∧
  0≤c.lo.den ρ 0∧c.lo.den ρ 0≤c.hi.den ρ 0∧(∀m,c.mx=some m→c.hi.den ρ 0≤m.den ρ 0)∧
  ∃a N C,x= .slice a N C∧N=(p.len.den ρ 0).toNat∧(c.mx=none→(c.hi.den ρ 0).toNat≤C)∧∀m,c.mx=some m→(m.den ρ 0).toNat≤C:=by
 obtain⟨lo,hi,mx⟩:=c;obtain⟨pl,pn,pm⟩:=p;obtain⟨h1,h2,h3,a,c,k,rfl,hc,rfl,hk⟩:=h;simp only [mG]at bW ⊢;obtain⟨vE,Gw⟩:=bE bW;obtain⟨Z4,vE⟩:=bE vE;have e0:=a_ Z4;have e1:=a_ vE;simp only [E.den]at e0;simp only at h1 h2 h3 hk;generalize hL:pl.den ρ 0=L at*;generalize hN:pn.den ρ 0=N at*;generalize hn:n.den ρ 0=nn at*;generalize hl:lo.den ρ 0=l at*;generalize hh:hi.den ρ 0=hd at*;cases mx with
 | none=>
  cases pm with
  | none=>
   simp only []at Gw;have e2:=a_ Gw;rw [bI,hL,hh,hn]at e2;simp only [Option.map_none,Option.getD_none]at hk ⊢;refine⟨⟨by simp only [bI,hL,hl];omega,by simp only [bI,eC,hL,hl,hh,hn];omega,by simp,a,c,k+if c - L.toNat=l.toNat then 0 else l.toNat*s,by rw [hn],by rw [hn];exact hc,?_,?_⟩,e0,e1,by simp,_,_,_,rfl,rfl,fun _=>by omega,by simp⟩
   ·simp only [aC,Option.map_none,Option.getD_none,bI,eC,hL,hl,hh];congr 1
    ·split
     ·simp
     ·cases a<;>simp [dc]
    ·omega
    ·omega
   ·simp only [bI,hL,hl];intro n7;rcases n7 with n7 | n7
    ·simp only [Option.map_none,Option.getD_none]at n7;rw [if_neg (by omega),hk (.inl (by omega)),←Nat.add_mul];congr 1;omega
    ·have IW:l=0:=by omega
     have WD:L=0:=by omega
     subst IW WD;rw [hk (.inr rfl)];simp
  | some m0=>
   simp only []at Gw;have e2:=a_ Gw;rw [bI,hL,hh]at e2;simp only [ajI,ajh]at hk h3 ⊢;have h3':=h3 _ rfl;generalize hm:m0.den ρ 0=m at*;refine⟨⟨by simp only [bI,hL,hl];omega,by simp only [bI,eC,hL,hl,hh,hn];omega,?_,a,c,k+if m.toNat - L.toNat=l.toNat then 0 else l.toNat*s,by rw [hn],by rw [hn];exact hc,?_,?_⟩,e0,e1,by simp,_,_,_,rfl,rfl,fun _=>by omega,by simp⟩
   ·simp only [ajI,bI,eC,hL,hl,hh,hn,hm,aiP];rintro _ rfl;omega
   ·simp only [aC,Option.map_none,Option.getD_none,ajh,ajI,bI,eC,hL,hl,hh,hm];congr 1
    ·split
     ·simp
     ·cases a<;>simp [dc]
    ·omega
    ·omega
   ·simp only [bI,hL,hl,ajI,ajh,hm];intro n7;rcases n7 with n7 | n7
    ·rw [if_neg (by omega),hk (.inl (by omega)),←Nat.add_mul];congr 1;omega
    ·have IW:l=0:=by omega
     have WD:L=0:=by omega
     subst IW WD;rw [hk (.inr rfl)];simp
 | some mq=>
  have e3:(hd≤mq.den ρ 0)∧L+mq.den ρ 0≤nn∧∀m0,pm=some m0→L+mq.den ρ 0≤m0.den ρ 0:=by
   cases pm with
   | none=>
    simp only []at Gw;obtain⟨g1,g2⟩:=bE Gw;have g1:=a_ g1;have g2:=a_ g2;rw [bI,hL,hn]at g2;rw [hh]at g1;exact⟨g1,g2,by simp⟩
   | some m0=>
    simp only []at Gw;obtain⟨g1,g2⟩:=bE Gw;have g1:=a_ g1;have g2:=a_ g2;rw [bI,hL]at g2;rw [hh]at g1;have:L+N≤m0.den ρ 0∧m0.den ρ 0≤nn:=h3 _ rfl;refine⟨g1,by omega,?_⟩;rintro _ ⟨⟩;exact g2
  obtain⟨e3,e4,e5⟩:=e3;generalize hm:mq.den ρ 0=m at*;have KF:L.toNat+m.toNat≤(Option.map ag (Option.map (fun m=>E.den ρ m 0) pm)).getD c:=by
   cases pm with
   | none=>simp only [Option.map_none,Option.getD_none];omega
   | some m0=>
    have:=e5 _ rfl;simp only [ajI,ajh];omega
  generalize (Option.map ag (Option.map (fun m=>E.den ρ m 0) pm)).getD c=tp at*;simp only [ajI];refine⟨⟨by simp only [bI,hL,hl];omega,by simp only [bI,eC,hL,hl,hh,hn];omega,?_,a,c,k+if m.toNat=l.toNat then 0 else l.toNat*s,by rw [hn],by rw [hn];exact hc,?_,?_⟩,e0,e1,?_,_,_,_,rfl,rfl,by simp,?_⟩
  ·simp only [ajI,bI,eC,hL,hl,hh,hn,hm,aiP];rintro _ rfl;omega
  ·simp only [aC,ajh,ajI,bI,eC,hL,hl,hh,hm];congr 1
   ·split
    ·simp
    ·cases a<;>simp [dc]
   ·omega
   ·omega
  ·simp only [bI,hL,hl,ajI,ajh,hm];intro n7;rcases n7 with n7 | n7
   ·rw [if_neg (by omega),hk (.inl (by omega)),←Nat.add_mul];congr 1;omega
   ·have IW:l=0:=by omega
    have WD:L=0:=by omega
    subst IW WD;rw [hk (.inr rfl)];simp
  ·rintro _ ⟨⟩;rw [hm];exact e3
  ·rintro _ ⟨⟩;rw [hm];omega
theorem vF{s:Nat}{v:Value}{n:E}: ∀(cs:List Cut) (x:Value) (p:Part),lQ ρ s v x n p→(∀b∈(rX n cs p).2,b.prop ρ)→lQ ρ s v (cS ρ s x cs) n (rX n cs p).1
 | [],_,_,h,_=>h
 | c::r,x,p,h,bW=>by
  simp only [rX]at bW ⊢;obtain⟨h1,h2⟩:=bE bW;exact vF r _ _ (h.step c h1).1 h2
theorem nK{md:Bool}{t s n:Nat}{v:Value}{cs:List Value}{S:Nat→Prop}(h:(aG md t s v n cs).p w S): ∃a c,v= .slice a n c∧n≤c:=by
 obtain⟨h0,_⟩:=h;cases md with
 | true=>
  simp only [if_true]at h0;rcases h0.2 with⟨rfl,rfl⟩ | ⟨g,o,cap,cur,rfl,_,Dg,_⟩
  ·exact⟨_,_,rfl,Nat.le_refl _⟩
  ·exact⟨_,_,rfl,Dg⟩
 | false=>
  simp only [Bool.false_eq_true,if_false]at h0;obtain⟨_,a,m,c',rfl,rfl,Qq,_⟩:=h0;exact⟨_,_,rfl,Qq⟩
theorem eK{x:SV}{r:Rt}(h:fB hp x=some r)(cP:Reads hp ρ w S [r.j])(bW: ∀b∈r.vcs,b.prop ρ):
  hp[r.j]? =some (.bK r.md r.v r.t r.s r.n r.aD)∧lQ ρ r.s (ρ.vv.getD r.v V1.nil).v (x.val ρ) r.n r.p:=by
 unfold fB at h;split at h
 ·rename_i v;split at h
  ·rename_i j md v' t s n aD hf;cases h;obtain⟨hj,dA⟩:=cN hf;simp only [Ck.mC,beq_iff_eq]at dA;subst dA;have hS:=cP j (by simp) _ hj;exact⟨hj,lQ.whole (nK hS)⟩
  ·cases h
 ·rename_i v cs s';split at h
  ·rename_i j md v' t s n aD hf;split at h
   ·rename_i hs;subst hs;cases h;obtain⟨hj,dA⟩:=cN hf;simp only [Ck.mC,beq_iff_eq]at dA;subst dA;have hS:=cP j (by simp) _ hj;exact⟨hj,vF cs _ _ (lQ.whole (nK hS)) bW⟩
   ·cases h
  ·cases h
 ·cases h
end
def fD:Option Value→Option Int→Prop
 | none,none=>True
 | some v,some i=> ∃k,v= .int k i
 | _,_=>False
section
variable {P:Program} {ρ:Env} {w:World} {look:Nat→Option SV} {bH:Operand→Value} {hp:List Ck} {S:Nat→Nat→Prop} {nb nv:Nat} {T:List TI}
theorem iS(sW:sR ρ look bH){o:Option Operand}{l:Option E}(h:yn look o=some l):fD (o.map bH) (l.map fun e:E=>e.den ρ 0):=by
 unfold yn at h;split at h
 ·cases h;exact True.intro
 ·split at h
  ·rename_i k e he;cases h;exact⟨k,eJ sW he⟩
  ·cases h
theorem rY(oU:Bool)(N C:Nat){lo hi mx:Option Value}{l h m:Option Int}(hl:fD lo l)(hh:fD hi h)(hm:fD mx m)(hx:m.isSome=true→h.isSome=true)
  (h0:0≤l.getD 0) (h1:l.getD 0≤h.getD (N:Int)) (h2: ∀x,m=some x→h.getD (N:Int)≤x∧x≤C) (h3:m=none→h.getD (N:Int)≤C):
  (ajB oU N C lo hi mx).run P w= .ok ((l.getD 0).toNat,(h.getD (N:Int)).toNat,(m.map ag).getD C) w:=by
 have hb:=fun(k:IntKind) (i:Int) (y:Nat) (code:BoundsCode) (a:0≤i) (b:i≤y)=>run_sliceBound (P:=P) (w:=w) k i y code a b
 cases m with
 | none=>
  have h3:=h3 rfl;cases mx with
  | some v=>exact hm.elim
  | none=>
   cases h with
   | none=>
    cases hi with
    | some v=>exact hh.elim
    | none=>
     cases l with
     | none=>
      cases lo with
      | some v=>exact hl.elim
      | none=>simp [ajB]
     | some l=>
      cases lo with
      | none=>exact hl.elim
      | some v=>
       obtain⟨k,rfl⟩:=hl;simp only [ajh,Option.getD_none]at h0 h1;simp [ajB,hb k l N _ h0 h1]
   | some h=>
    cases hi with
    | none=>exact hh.elim
    | some v=>
     obtain⟨kh,rfl⟩:=hh;simp only [ajh]at h1 h3;have hhn:(h.toNat:Int)=h:=Int.toNat_of_nonneg (by omega);cases l with
     | none=>
      cases lo with
      | some v=>exact hl.elim
      | none=>
       simp only [Option.getD_none]at h1;simp [ajB,hb kh h C _ h1 h3]
     | some l=>
      cases lo with
      | none=>exact hl.elim
      | some v=>
       obtain⟨k,rfl⟩:=hl;simp only [ajh]at h0 h1;simp [ajB,hb kh h C _ (by omega) h3,hb k l h.toNat _ h0 (by omega)]
 | some m=>
  obtain⟨g2,g3⟩:=h2 m rfl;cases mx with
  | none=>exact hm.elim
  | some v=>
   obtain⟨km,rfl⟩:=hm;cases h with
   | none=>simp at hx
   | some h=>
    cases hi with
    | none=>exact hh.elim
    | some v=>
     obtain⟨kh,rfl⟩:=hh;simp only [ajh]at h1 g2;cases l with
     | none=>
      cases lo with
      | some v=>exact hl.elim
      | none=>
       simp only [Option.getD_none]at h1;simp [ajB,hb km m C _ (by omega) g3,hb kh h m.toNat _ (by omega) (by omega)]
     | some l=>
      cases lo with
      | none=>exact hl.elim
      | some v=>
       obtain⟨k,rfl⟩:=hl;simp only [ajh]at h0 h1;simp [ajB,hb km m C _ (by omega) g3,hb kh h m.toNat _ (by omega) (by omega),hb k l h.toNat _ h0 (by omega)]
theorem oq(hT:bD P T=true){t:TypeId}{tt te:TI}(ht:aU T t=some tt){e:Nat}(hk:tt.k= .slice e)(gP:aU T e=some te)
  (a:Option Addr) (N C:Nat) {lo hi mx:Option Value} {l h m:Option Int} (hl:fD lo l) (hh:fD hi h) (hm:fD mx m) (hx:m.isSome=true→h.isSome=true)
  (h0:0≤l.getD 0) (h1:l.getD 0≤h.getD (N:Int)) (h2: ∀x,m=some x→h.getD (N:Int)≤x∧x≤C) (h3:m=none→h.getD (N:Int)≤C):
  (Instr.sliceAt t (.slice a N C) lo hi mx).run P w= .ok (aC te.size (.slice a N C) (l.getD 0).toNat (h.getD (N:Int)).toNat (m.map ag)) w:=by
 obtain⟨rfl,sy⟩:=aE hT ht;obtain⟨rfl,cK⟩:=aE hT gP;have cO:=sy.kind;rw [hk]at cO;have hu:=bM cO;have:=rY (P:=P) (w:=w) true N C hl hh hm hx h0 h1 h2 h3;simp [Instr.sliceAt,Instr.slice,run_underlying hu,this,cK.sizeOf w,aC]
theorem Ad(hT:bD P T=true){t:TypeId}{tt te:TI}(ht:aU T t=some tt){n e:Nat}(hk:tt.k= .arr n e)(gP:aU T e=some te)
  (a:Addr) {lo hi mx:Option Value} {l h m:Option Int} (hl:fD lo l) (hh:fD hi h) (hm:fD mx m) (hx:m.isSome=true→h.isSome=true)
  (h0:0≤l.getD 0) (h1:l.getD 0≤h.getD (n:Int)) (h2: ∀x,m=some x→h.getD (n:Int)≤x∧x≤n) (h3:m=none→h.getD (n:Int)≤n):
  (Instr.sliceAt t (.pointer (some a)) lo hi mx).run P w= .ok (aC te.size (.slice (some a) n n) (l.getD 0).toNat (h.getD (n:Int)).toNat (m.map ag)) w:=by
 obtain⟨rfl,sy⟩:=aE hT ht;obtain⟨rfl,cK⟩:=aE hT gP;have cO:=sy.kind;rw [hk]at cO;have hu:=nJ cO;have:=rY (P:=P) (w:=w) false n n hl hh hm hx h0 h1 h2 h3;simp only [Instr.sliceAt,ai2,run_underlying hu,aiU,Instr.sureAddr,ajd,this,cK.sizeOf w,aC];congr 2;split<;>simp
theorem IX(b i0 n0 m0 s:Nat)(l h:Int)(m:Int)(h0:0≤l)(h1:l≤h)(h2:h≤m)(h3:l=0∨l<m):
  aC s (.slice (some ⟨b,i0*s,none⟩) n0 m0) l.toNat h.toNat (some m.toNat)= .slice (some ⟨b,(i0+l.toNat)*s,none⟩) (h - l).toNat (m - l).toNat:=by
 simp only [aC,ajh];congr 1
 ·rcases h3 with rfl | h3
  ·simp [kb]
  ·rw [if_neg (by omega),ajI,g8,Nat.add_mul]
 ·omega
 ·omega
theorem pM(o:Option E)(d:E):(o.getD d).den ρ 0=(o.map fun e:E=>e.den ρ 0).getD (d.den ρ 0):=by cases o<;>rfl
theorem Cc{x v:SV}{c:Cut}{s:Nat}(h:yp x c s=some v):
  v.val ρ=aC s (x.val ρ) (c.lo.den ρ 0).toNat (c.hi.den ρ 0).toNat (c.mx.map fun m=>(m.den ρ 0).toNat):=by
 unfold yp at h;split at h
 ·cases h;rfl
 ·split at h
  ·rename_i hs;subst hs;cases h;simp only [SV.val,ns];rfl
  ·cases h
 ·cases h
theorem M8{l mm:E}(h: ∀b∈(if l= .lit 0 then []else [GR l mm].filter fun b=>b != .lit true),b.prop ρ):l.den ρ 0=0∨l.den ρ 0<mm.den ρ 0:=by
 split at h
 ·rename_i hl;subst hl;exact .inl rfl
 ·exact .inr (wO h)
theorem yq(hT:bD P T=true){t:TypeId}{tt:TI}(fc:aU T t=some tt){x:SV}{l h m:Option E}{res:hU}(hs:yr T hp tt.k x l h m=some res)
  {lo hi mx:Option Value} (hl:fD lo (l.map fun e:E=>e.den ρ 0)) (hh:fD hi (h.map fun e:E=>e.den ρ 0)) (hm:fD mx (m.map fun e:E=>e.den ρ 0))
  (cP:Reads hp ρ w S res.rd) (bW: ∀b∈res.vcs,b.prop ρ):
  (Instr.sliceAt t (x.val ρ) lo hi mx).run P w= .ok (res.val.val ρ) w∧res.hZ= .none:=by
 unfold yr at hs;split at hs
 ·cases hs
 ·rename_i Tm;have hx:(m.map fun e:E=>e.den ρ 0).isSome=true→(h.map fun e:E=>e.den ρ 0).isSome=true:=by
   cases m<;>cases h<;>simp_all
  split at hs
  ·rename_i e b i s n cap hk;split at hs
   ·rename_i te gP;split at hs
    ·rename_i eS;subst eS;simp only [aiP]at hs;subst hs;refine⟨?_,rfl⟩;simp only at bW;obtain⟨bW,q6⟩:=bE bW;obtain⟨bW,q5⟩:=bE bW;obtain⟨bW,q4⟩:=bE bW;obtain⟨bW,q3⟩:=bE bW;obtain⟨bW,q2⟩:=bE bW;obtain⟨q0,q1⟩:=bE bW;have q0:=a_ q0;have q1:=a_ q1;have q2:=a_ q2;have q3:=a_ q3;have q4:=a_ q4;have q5:=a_ q5;have q6:=M8 q6;simp only [pM,E.den]at q0 q1 q2 q3 q4 q5 q6;have e1:(SV.sl b i te.size n cap).val ρ= .slice (some ⟨ρ.bv.getD b 0,(i.den ρ 0).toNat*te.size,none⟩) (n.den ρ 0).toNat (cap.den ρ 0).toNat:=rfl;have Z5:((n.den ρ 0).toNat:Int)=n.den ρ 0:=Int.toNat_of_nonneg q5;have ij:=oq (P:=P) (w:=w) hT fc hk gP (some ⟨ρ.bv.getD b 0,(i.den ρ 0).toNat*te.size,none⟩) (n.den ρ 0).toNat (cap.den ρ 0).toNat hl hh hm hx q1 (by rw [Z5];exact q2)
      (fun x hx=>by rw [hx]at q3 q4;rw [Z5];simp only [ajh]at q3 q4;exact⟨q3,by omega⟩) (fun hx=>by rw [hx]at q3;rw [Z5];simp only [Option.getD_none]at q3;omega)
     rw [e1,ij,Z5];congr 1;have P7:aC te.size (.slice (some ⟨ρ.bv.getD b 0,(i.den ρ 0).toNat*te.size,none⟩) (n.den ρ 0).toNat (cap.den ρ 0).toNat) ((l.map fun e:E=>e.den ρ 0).getD 0).toNat
       ((h.map fun e:E=>e.den ρ 0).getD (n.den ρ 0)).toNat ((m.map fun e:E=>e.den ρ 0).map ag)=
       aC te.size (.slice (some ⟨ρ.bv.getD b 0,(i.den ρ 0).toNat*te.size,none⟩) (n.den ρ 0).toNat (cap.den ρ 0).toNat) ((l.map fun e:E=>e.den ρ 0).getD 0).toNat
       ((h.map fun e:E=>e.den ρ 0).getD (n.den ρ 0)).toNat (some ((m.map fun e:E=>e.den ρ 0).getD (cap.den ρ 0)).toNat):=by
      cases m<;>rfl
     rw [P7,IX _ _ _ _ _ _ _ _ q1 q2 q3 q6];simp only [SV.val,bI,eC,pM,E.den];congr 4;omega
    ·cases hs
   ·cases hs
  ·rename_i e hk;split at hs
   ·rename_i te gP;split at hs
    ·rename_i hz;cases hs;obtain⟨z1,z2,z3⟩:=hz;refine⟨?_,rfl⟩;have g1:(l.map fun e:E=>e.den ρ 0).getD 0=0:=by cases l with | none=>rfl | some l=>simp only [ajh]at z1;subst z1;rfl
     have g2:(h.map fun e:E=>e.den ρ 0).getD 0=0:=by cases h with | none=>rfl | some l=>simp only [ajh]at z2;subst z2;rfl
     have g3:(m.map fun e:E=>e.den ρ 0).getD 0=0:=by cases m with | none=>rfl | some l=>simp only [ajh]at z3;subst z3;rfl
     have ij:=oq (P:=P) (w:=w) hT fc hk gP none 0 0 hl hh hm hx (by rw [g1];exact Int.le_refl _) (by rw [g1];simp only [Int.natCast_zero,g2];exact Int.le_refl _)
      (fun x hx=>by rw [hx]at g3;simp only [ajh]at g3;subst g3;simp only [Int.natCast_zero,g2];exact⟨Int.le_refl _,Int.le_refl _⟩) (fun _=>by simp only [Int.natCast_zero,g2];exact Int.le_refl _)
     rw [show(SV.bU).val ρ= .slice none 0 0 from rfl,ij];congr 1;simp only [g1,Int.natCast_zero,g2];cases m with
     | none=>simp [aC]
     | some m=>simp only [ajI,ajh]at g3;simp [aC,g3]
    ·cases hs
   ·cases hs
  ·rename_i e hk _ _;split at hs
   ·rename_i te r gP hr;split at hs
    ·rename_i eS;dsimp only at hs;split at hs
     ·rename_i v hv;cases hs;refine⟨?_,rfl⟩;simp only at bW;obtain⟨vE,Gw⟩:=bE bW;obtain⟨hj,dB⟩:=eK hr cP vE;obtain⟨h1,h2,h3,h4,a,N,C,G5,hN,hC,hCm⟩:=dB.step _ Gw;rw [Cc hv,G5];simp only [pM,E.den]at h2 h3 h4 hC ⊢;have WE:(h.map fun e:E=>e.den ρ 0).getD (r.p.len.den ρ 0)=(h.map fun e:E=>e.den ρ 0).getD (N:Int)∨(h=none∧r.p.len.den ρ 0≤N):=by
       cases h with
       | none=>right;exact⟨rfl,by omega⟩
       | some h=>left;rfl
      have WE:(h.map fun e:E=>e.den ρ 0).getD (N:Int)=(h.map fun e:E=>e.den ρ 0).getD (r.p.len.den ρ 0):=by
       rcases WE with h | ⟨rfl,hle⟩
       ·exact h.symm
       ·simp only [Option.map_none,Option.getD_none]at h3 ⊢;omega
      have ij:=oq (P:=P) (w:=w) hT fc hk gP a N C hl hh hm hx h2 (by rw [WE];exact h3)
       (fun x hx=>by
        rw [WE];rw [aiO]at hx;obtain⟨me,hme,rfl⟩:=hx;have:=h4 me hme;have:=hCm me hme;exact⟨h4 me hme,by omega⟩)
       (fun hx=>by
        rw [WE];have:=hC (by simpa using hx);omega)
      rw [ij,WE,eS];congr 2;cases m<;>rfl
     ·cases hs
    ·cases hs
   ·cases hs
  ·rename_i n e b c hk;split at hs
   ·rename_i te gP;split at hs
    ·rename_i eS;obtain⟨eS,aa4⟩:=eS;simp only [aiP]at hs;subst hs;refine⟨?_,rfl⟩;simp only at bW;obtain⟨bW,q6⟩:=bE bW;obtain⟨bW,q4⟩:=bE bW;obtain⟨bW,q3⟩:=bE bW;obtain⟨q1,q2⟩:=bE bW;have q1:=a_ q1;have q2:=a_ q2;have q3:=a_ q3;have q4:=a_ q4;have q6:=M8 q6;simp only [pM,E.den]at q1 q2 q3 q4 q6;have hc:c=c/te.size*te.size:=by
      have:=Nat.div_add_mod c te.size;rw [aa4,Nat.add_zero,Nat.mul_comm]at this;exact this.symm
     have e1:(SV.ptr b c).val ρ= .pointer (some ⟨ρ.bv.getD b 0,c/te.size*te.size,none⟩):=by
      rw [←hc];rfl
     have ij:=Ad (P:=P) (w:=w) hT fc hk gP ⟨ρ.bv.getD b 0,c/te.size*te.size,none⟩ hl hh hm hx q1 q2
      (fun x hx=>by rw [hx]at q3 q4;simp only [ajh]at q3 q4;exact⟨q3,q4⟩) (fun hx=>by rw [hx]at q3;simp only [Option.getD_none]at q3;exact q3)
     rw [e1,ij];congr 1;have P7:aC te.size (.slice (some ⟨ρ.bv.getD b 0,c/te.size*te.size,none⟩) n n) ((l.map fun e:E=>e.den ρ 0).getD 0).toNat
       ((h.map fun e:E=>e.den ρ 0).getD (n:Int)).toNat ((m.map fun e:E=>e.den ρ 0).map ag)=
       aC te.size (.slice (some ⟨ρ.bv.getD b 0,c/te.size*te.size,none⟩) n n) ((l.map fun e:E=>e.den ρ 0).getD 0).toNat
       ((h.map fun e:E=>e.den ρ 0).getD (n:Int)).toNat (some ((m.map fun e:E=>e.den ρ 0).getD (n:Int)).toNat):=by
      cases m<;>simp [aC]
     rw [P7,IX _ _ _ _ _ _ _ _ q1 q2 q3 q6];simp only [SV.val,bI,eC,pM,E.den];congr 4;generalize c/te.size=q;omega
    ·cases hs
   ·cases hs
  ·cases hs
end
end Go.RX
