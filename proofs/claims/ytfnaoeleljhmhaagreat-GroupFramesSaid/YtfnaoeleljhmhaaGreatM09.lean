/- A reflective symbolic executor, part 14: what one operation does, all of them. · A reflective symbolic executor, part 15: addresses, append; every operation. -/
import Derived.Test.YtfnaoeleljhmhaaGreatM08

namespace Go.RX
def newDen(ρ:Env)(nb r:Nat):Ck→Option HP
 | .row b true cs=>if b=nb then some (rowHP r true (SV.cellsL ρ cs))else none
 | .map b kl ka va z has cols=>if b=nb then some (mapNHP r kl ka va (SV.cellsL ρ z) (has.den ρ) fun i=>(cols.map (Col.cells ρ)).flatMap fun c=>c i)else none
 | .mapl b kl ka va z es=>if b=nb then some (mapHP r kl ka va (SV.cellsL ρ z) (fun i=>hasL es i) fun i=>SV.cellsL ρ (rowL es z i))else none
 | .bld b t e n a=>if b=nb then some (bldHP r t e (segCells .u8 (n.den ρ 0).toNat (a.den ρ)))else none
 | .sit b l p=>if b=nb then some (sitHP r l p)else none
 | .mit b m=>if b=nb then some (mitHP r (ρ.bv.getD m 0))else none
 | _=>none
def Did(P:Program)(ρ:Env)(w:World)(hp:List Ck)(S:Nat→Nat→Prop)(nb nv:Nat)(run:Result Next)(res:Res):Prop:=
 match res.eff with
 | .none=>run= .ok (.value (res.val.val ρ)) w
 | .new ck=> ∃w' hpr,newDen ρ nb w.heap.size ck=some hpr∧run= .ok (.value (res.val.val (ρ.addB w.heap.size))) w'∧Same w w'∧w'.heap.size=w.heap.size+1∧
   (∀k,k<w.heap.size→w'.heap[k]? =w.heap[k]?)∧hpr.p w' (fun k=>k=w.heap.size)
 | .set j ck=> ∃w',(run= .ok (.value (res.val.val ρ)) w'∨(res.val= .undef∧run= .ok .skip w'))∧Wrote P w ρ hp S j ck w'
 | .app j ck=> ∃t s n cols v w' S',ck= .sli true nv t s n cols∧res.val= .vv nv∧run= .ok (.value v) w'∧v.oneCell'=true∧
   (∃ck0,hp[j]? =some ck0∧(ck0.den ρ).wr=true)∧Same w w'∧(∀k,k<w.heap.size→¬S j k→w'.heap[k]? =w.heap[k]?)∧
   (sliHP true t s v (n.den ρ 0).toNat (tabCells ρ (n.den ρ 0).toNat cols)).p w' S'∧∀k,S' k→S j k∨(w.heap.size≤k∧k<w'.heap.size)
 | .own ck=> ∃t s n cols v w' S',ck= .sli true nv t s n cols∧res.val= .vv nv∧run= .ok (.value v) w'∧v.oneCell'=true∧Same w w'∧(∀k,k<w.heap.size→w'.heap[k]? =w.heap[k]?)∧
   (sliHP true t s v (n.den ρ 0).toNat (tabCells ρ (n.den ρ 0).toNat cols)).p w' S'∧∀k,S' k→w.heap.size≤k∧k<w'.heap.size
 | .lend ck=> ∃t s n cols v w' S',ck= .sli false nv t s n cols∧res.val= .vv nv∧run= .ok (.value v) w'∧v.oneCell'=true∧Same w w'∧(∀k,k<w.heap.size→w'.heap[k]? =w.heap[k]?)∧
   (sliHP false t s v (n.den ρ 0).toNat (tabCells ρ (n.den ρ 0).toNat cols)).p w' S'∧∀k,S' k→w.heap.size≤k∧k<w'.heap.size
section
variable {P:Program} {ρ:Env} {w:World} {look:Nat→Option SV} {vals:Operand→Value} {hp:List Ck} {S:Nat→Nat→Prop} {nb nv:Nat} {T:List TI}
theorem getD_addB(ρ:Env)(b:Nat):(ρ.addB b).bv[ρ.bv.length]?.getD 0=b:=by
 simp [Env.addB]
theorem alloc_row(w:World)(cs:Array Value)(e:TypeId)(l:List Value)(hl:cs.toList=l):
  Same w (w.alloc (.cells cs e))∧(w.alloc (.cells cs e)).heap.size=w.heap.size+1∧(∀k,k<w.heap.size→(w.alloc (.cells cs e)).heap[k]? =w.heap[k]?)∧
   (rowHP w.heap.size true l).p (w.alloc (.cells cs e)) (fun k=>k=w.heap.size):=by
 subst hl;refine⟨⟨rfl,rfl,rfl,by simp⟩,by simp,fun k hk=>heap_alloc_old w _ hk,fun k=>Iff.rfl,e,(0,0),?_,fun _=>rfl⟩;have hn:=heap_alloc_new w (.cells cs e);simpa using hn
theorem alloc_sound(hT:checkT P T=true)(hnb:ρ.bv.length=nb){t:TypeId}{ti:TI}(ht:tlook T t=some ti):
  Did P ρ w hp S nb nv ((do pure (.value (←Instr.alloc t true (.tuple #[]))):Sem Next).run P w) {val:= .ptr nb 0,eff:= .new (.row nb true ti.zero)}:=by
 obtain⟨rfl,hti⟩:=tlook_spec hT ht;obtain⟨z,hz,hc⟩:=hti.zero w;obtain⟨h1,h2,h3,h4⟩:=alloc_row w z.cells ti.t (SV.cellsL ρ ti.zero) (hc ρ).symm;refine⟨_,_,if_pos rfl,?_,h1,h2,h3,h4⟩;subst hnb;simp [Instr.alloc,hz,newVar,newRow,SV.val,getD_addB]
theorem bld_sound(hT:checkT P T=true)(hnb:ρ.bv.length=nb){t:TypeId}{ti:TI}(ht:tlook T t=some ti)(e:Nat)(hz0:SV.cellsL ρ ti.zero=[.pointer none,.slice none 0 0]):
  Did P ρ w hp S nb nv ((do pure (.value (←Instr.alloc t true (.tuple #[]))):Sem Next).run P w) {val:= .ptr nb 0,eff:= .new (.bld nb t e (.lit 0) (.lit 0))}:=by
 obtain⟨rfl,hti⟩:=tlook_spec hT ht;obtain⟨z,hz,hc⟩:=hti.zero w;obtain⟨h1,h2,h3,h4⟩:=alloc_row w z.cells ti.t (SV.cellsL ρ ti.zero) (hc ρ).symm;refine⟨_,_,if_pos rfl,?_,h1,h2,h3,?_⟩
 ·subst hnb;simp [Instr.alloc,hz,newVar,newRow,SV.val,getD_addB]
 ·have hzc:z.cells= #[.pointer none,.slice none 0 0]:=Array.ext' (by rw [←hc ρ,hz0]);refine⟨.pointer none,.slice none 0 0,?_,.inl rfl,?_,by simp [Value.ownBlock],fun k=>by simp [Value.ownBlock]⟩
  ·have hn:=heap_alloc_new w (.cells z.cells ti.t);rw [hzc]at hn;rw [hzc];exact hn
  ·simp only [E.den,Int.toNat_zero,segCells,List.range_zero,List.map_nil,List.length_nil];exact World.ownsRow_nil _ 0 e 1
theorem box_sound(hok:ρ.Ok)(hnb:ρ.bv.length=nb){t:TypeId}{v:SV}{cs:List SV}(hcs:toCells v=some cs):
  Did P ρ w hp S nb nv ((do pure (.value (←Instr.box t (v.val ρ))):Sem Next).run P w) {val:= .ptr nb 0,eff:= .new (.row nb true cs)}:=by
 obtain⟨h1,h2,h3,h4⟩:=alloc_row w (v.val ρ).cells t (SV.cellsL ρ cs) (toCells_cells ρ hcs hok).1;refine⟨_,_,if_pos rfl,?_,h1,h2,h3,h4⟩;subst hnb;simp [Instr.box,newVar,newRow,SV.val,getD_addB]
theorem part_sound{ti:TI}(hti:TInfo P ti){cs x:List SV}{off:Nat}{v:SV}(hx:rowCut off ti.size cs=some x)(hv:ofCells ti.k.agg x=some v):
  (part ti.t (SV.cellsL ρ cs).toArray off).run P w= .ok (v.val ρ) w:=by
 obtain⟨h1,h2⟩:=rowCut_cells ρ hx;obtain⟨h3,h4⟩:=ofCells_val ρ hv;cases ha:ti.k.agg with
 | true=>
  simp only [part,Sem.run_bind,hti.isAgg w,ha,Result.andThen_ok,if_true,hti.sizeOf w,Sem.run_pure,h3 ha,h1];congr 3;apply Array.ext';simp [List.extract_eq_take_drop]
 | false=>
  have h5:=h4 ha;rw [h1]at h5;have h6:(SV.cellsL ρ cs)[off]? =some (v.val ρ):=by
   have:(((SV.cellsL ρ cs).drop off).take ti.size)[0]? =some (v.val ρ):=by rw [h5];rfl
   rw [List.getElem?_take,List.getElem?_drop]at this;split at this
   ·simpa using this
   ·cases this
  simp [part,hti.isAgg w,ha,h6]
theorem places_spec(hT:checkT P T=true): ∀(fs:List Field) (l:List (Nat×Nat)),fs.map (fun f=>(f.type,f.offset))=l→tlookAll T l=true→
  ∃places,fs.mapM (fun f=>(P.info? f.type).map fun i=>(f.offset,i.size))=some places∧∀i,places[i]? =fieldPlaces T l i
 | [],l,h,_=>by
  subst h;exact⟨[],rfl,fun i=>by simp [fieldPlaces]⟩
 | f::r,l,h,ha=>by
  subst h;simp only [tlookAll,List.map_cons,List.all_cons,Bool.and_eq_true]at ha;obtain⟨p,hp,hpl⟩:=places_spec hT r _ rfl (by simpa [tlookAll] using ha.2);obtain⟨ti,hti⟩:=Option.isSome_iff_exists.1 ha.1;obtain⟨ht,hi⟩:=tlook_spec hT hti;obtain⟨i,h1,h2,_⟩:=hi.info;rw [ht]at h1;refine⟨(f.offset,i.size)::p,?_,fun k=>?_⟩
  ·simp [List.mapM_cons,h1,hp]
  ·cases k with
   | zero=>simp [fieldPlaces,hti,h2]
   | succ k=>rw [List.getElem?_cons_succ,hpl k];simp [fieldPlaces]
theorem build_struct_sound(hT:checkT P T=true){ti:TI}{t:TypeId}(ht:tlook T t=some ti){fs:List (Nat×Nat)}(hk:ti.k= .struct fs)(hall:tlookAll T fs=true)
  {ps:List (Nat×List SV)} {vs:Array (Nat×Value)} (hm:PartsMatch ρ ps vs.toList) {cs:List SV} (hf:fillSym (fieldPlaces T fs) ti.zero ps=some cs):
  (Instr.build t vs).run P w= .ok (.agg (SV.cellsL ρ cs).toArray) w:=by
 obtain⟨rfl,hti⟩:=tlook_spec hT ht;obtain⟨i,hi,_,_,z,hz,hc⟩:=hti.info;have hkk:=hti.kind;rw [hk]at hkk;obtain⟨fa,hu,hfa⟩:=kind_struct hkk;obtain⟨places,hp,hpl⟩:=places_spec hT fa.toList fs hfa hall;obtain⟨r,hr,hrl⟩:=fill_spec (ρ:=ρ) (fieldPlaces T fs) hm hf (hc ρ).symm;have hb:P.built ti.t vs.toList=some r:=by
  unfold Program.built;simp only [hi,hu,hz,hp];rw [←hr];congr 1;funext k;rw [←hpl k];simp
 rw [run_build w ti.t vs r hb];congr 2;exact Array.ext' (by simpa using hrl)
theorem build_arr_sound(hT:checkT P T=true){ti te:TI}{t:TypeId}(ht:tlook T t=some ti){n e:Nat}(hk:ti.k= .arr n e)(hte:tlook T e=some te)
  {ps:List (Nat×List SV)} {vs:Array (Nat×Value)} (hm:PartsMatch ρ ps vs.toList) {cs:List SV} (hf:fillSym (elemPlaces te.size) ti.zero ps=some cs):
  (Instr.build t vs).run P w= .ok (.agg (SV.cellsL ρ cs).toArray) w:=by
 obtain⟨rfl,hti⟩:=tlook_spec hT ht;obtain⟨rfl,htie⟩:=tlook_spec hT hte;obtain⟨i,hi,_,_,z,hz,hc⟩:=hti.info;obtain⟨ie,hie,hse,_⟩:=htie.info;have hkk:=hti.kind;rw [hk]at hkk;have hu:=kind_arr hkk;obtain⟨r,hr,hrl⟩:=fill_spec (ρ:=ρ) (elemPlaces te.size) hm hf (hc ρ).symm;have hb:P.built ti.t vs.toList=some r:=by
  unfold Program.built;simp only [hi,hu,hz,hie,hse];exact hr
 rw [run_build w ti.t vs r hb];congr 2;exact Array.ext' (by simpa using hrl)
theorem rep_cells(n:Nat)(l:List SV):SV.cellsL ρ (List.replicate n l).flatten=(List.replicate n (SV.cellsL ρ l)).flatten:=by
 induction n with
 | zero=>rfl
 | succ n ih=>rw [List.replicate_succ,List.replicate_succ,List.flatten_cons,List.flatten_cons,cellsL_append,ih]
theorem rep_mod(z:Array Value)(len:Nat)(_:0<z.size):((Array.range (len*z.size)).map (z[· %z.size]!)).toList=(List.replicate len z.toList).flatten:=by
 rw [Array.toList_map,Array.toList_range]
 induction len with
 | zero=>simp
 | succ n ih=>
  rw [List.replicate_succ',List.flatten_append,←ih,Nat.add_mul,Nat.one_mul,List.range_add,List.map_append];congr 1;rw [List.map_map,List.flatten_singleton];apply List.ext_getElem
  ·simp
  ·intro i h1 h2;have hi:i<z.size:=by simpa using h2
   simp [Nat.add_mod,Nat.mod_eq_of_lt hi,hi]
theorem buildSlice_sound(hT:checkT P T=true)(hnb:ρ.bv.length=nb){ti te:TI}{t:TypeId}(ht:tlook T t=some ti){e:Nat}(hk:ti.k= .slice e)(hte:tlook T e=some te){len:Nat}
  (hlen: ¬(len=0∨te.size=0∨1000<len*te.size)) {ps:List (Nat×List SV)} {vs:Array (Nat×Value)} (hm:PartsMatch ρ ps vs.toList) {cs:List SV}
  (hf:fillSym (elemPlaces te.size) (List.replicate len te.zero).flatten ps=some cs):
  Did P ρ w hp S nb nv ((do pure (.value (←Instr.buildSlice t len vs)):Sem Next).run P w)
   {val:= .sl nb (.lit 0) te.size (.lit len) (.lit len),eff:= .new (.row nb true cs)}:=by
 obtain⟨rfl,hti⟩:=tlook_spec hT ht;obtain⟨rfl,htie⟩:=tlook_spec hT hte;obtain⟨ie,hie,hse,_,z,hz,hc⟩:=htie.info;have hkk:=hti.kind;rw [hk]at hkk;have hu:=kind_slice hkk;have hzs:z.cells.size=te.size:=by
  rw [←Array.length_toList,←hc ρ,cellsL_length,htie.zlen]
 have hrep:((Array.range (len*ie.size)).map (z.cells[· %z.cells.size]!)).toList=SV.cellsL ρ (List.replicate len te.zero).flatten:=by
  rw [rep_cells,hc ρ,hse,←hzs];exact rep_mod _ _ (by omega)
 obtain⟨r,hr,hrl⟩:=fill_spec (ρ:=ρ) (elemPlaces te.size) hm hf hrep;have hpos: ¬len*ie.size=0:=by rw [hse];simp only [Nat.mul_eq_zero];omega
 have hb:=run_buildSlice (P:=P) w ti.t te.t len vs r ie z hu hie hz (by rw [hse];omega) hpos (by rw [←hr,hse];rfl);obtain⟨h1,h2,h3,h4⟩:=alloc_row w r te.t (SV.cellsL ρ cs) hrl;refine⟨_,_,if_pos rfl,?_,h1,h2,h3,h4⟩;subst hnb;simp [hb,SV.val,getD_addB,E.den]
end
end Go.RX

namespace Go.RX
section
variable {P:Program} {ρ:Env} {w:World} {look:Nat→Option SV} {vals:Operand→Value} {hp:List Ck} {S:Nat→Nat→Prop} {nb nv:Nat} {T:List TI}
theorem litNat_den{i:E}{n:Nat}(h:litNat i=some n):i.den ρ 0=n:=by
 unfold litNat at h;split at h
 ·cases h;rfl
 ·cases h
theorem mkPtr_val(b:Nat)(i:E)(s c:Nat):(mkPtr b i s c).val ρ= .pointer (some ⟨ρ.bv.getD b 0,(i.den ρ 0).toNat*s+c,none⟩):=by
 unfold mkPtr;split
 ·rename_i n hn;simp [SV.val,litNat_den hn]
 ·rfl
theorem run_fieldAt_sound(hT:checkT P T=true){s:TypeId}{ts ti:TI}(hs:tlook T s=some ts){fs:List (Nat×Nat)}(hk:ts.k= .struct fs){f t off:Nat}
  (hf:fs[f]? =some (t,off)) (ht:tlook T t=some ti) (hsz: ¬ti.size=0) (a:Addr):
  (Instr.fieldAt s (.pointer (some a)) f).run P w= .ok (.pointer (some (a.add off))) w:=by
 obtain⟨rfl,hts⟩:=tlook_spec hT hs;obtain⟨rfl,hti⟩:=tlook_spec hT ht;have hkk:=hts.kind;rw [hk]at hkk;obtain⟨fa,hu,hfa⟩:=kind_struct hkk;subst hfa;rw [List.getElem?_map,Option.map_eq_some_iff]at hf;obtain⟨fd,hfd,he⟩:=hf;rw [Array.getElem?_toList]at hfd;simp only [Prod.mk.injEq]at he;have h1:(Go.sizeOf fd.type).run P w= .ok ti.size w:=by rw [he.1];exact hti.sizeOf w
 simp [Instr.fieldAt,run_underlying hu,hfd,Instr.sureAddr,fieldPlace,h1,hsz,he.2]
theorem run_field_sound(hT:checkT P T=true){s:TypeId}{ts ti:TI}(hs:tlook T s=some ts){fs:List (Nat×Nat)}(hk:ts.k= .struct fs){f t off:Nat}
  (hf:fs[f]? =some (t,off)) (ht:tlook T t=some ti) {cs x:List SV} {v:SV} (hx:rowCut off ti.size cs=some x) (hv:ofCells ti.k.agg x=some v):
  (Instr.field s (.agg (SV.cellsL ρ cs).toArray) f).run P w= .ok (v.val ρ) w:=by
 obtain⟨rfl,hts⟩:=tlook_spec hT hs;obtain⟨rfl,hti⟩:=tlook_spec hT ht;have hkk:=hts.kind;rw [hk]at hkk;obtain⟨fa,hu,hfa⟩:=kind_struct hkk;subst hfa;rw [List.getElem?_map,Option.map_eq_some_iff]at hf;obtain⟨fd,hfd,he⟩:=hf;rw [Array.getElem?_toList]at hfd;simp only [Prod.mk.injEq]at he;have h1:=part_sound (ρ:=ρ) (w:=w) hti hx hv;rw [←he.1,←he.2]at h1;simp [Instr.field,run_underlying hu,hfd,asAgg,h1]
theorem run_indexAt_sl(hT:checkT P T=true){t:TypeId}{tt te:TI}(ht:tlook T t=some tt){e:Nat}(hk:tt.k= .slice e)(hte:tlook T e=some te)
  (a:Addr) (n c:Nat) (k:IntKind) (j:Int) (h0:0≤j) (h1:j<n):
  (Instr.indexAt t (.slice (some a) n c) (.int k j)).run P w= .ok (.pointer (some (a.add (j.toNat*te.size)))) w:=by
 obtain⟨rfl,hts⟩:=tlook_spec hT ht;obtain⟨rfl,hti⟩:=tlook_spec hT hte;have hkk:=hts.kind;rw [hk]at hkk;have hu:=kind_slice hkk;simp [Instr.indexAt,run_underlying hu,asIntOf,h0,h1,hti.sizeOf w]
theorem run_indexAt_ar(hT:checkT P T=true){t:TypeId}{tt te:TI}(ht:tlook T t=some tt){n e:Nat}(hk:tt.k= .arr n e)(hte:tlook T e=some te)
  (a:Addr) (k:IntKind) (j:Int) (h0:0≤j) (h1:j<n):
  (Instr.indexAt t (.pointer (some a)) (.int k j)).run P w= .ok (.pointer (some (a.add (j.toNat*te.size)))) w:=by
 obtain⟨rfl,hts⟩:=tlook_spec hT ht;obtain⟨rfl,hti⟩:=tlook_spec hT hte;have hkk:=hts.kind;rw [hk]at hkk;have hu:=kind_arr hkk;simp [Instr.indexAt,run_underlying hu,asIntOf,Instr.sureAddr,h0,h1,hti.sizeOf w]
theorem run_index_ar(hT:checkT P T=true){t:TypeId}{tt te:TI}(ht:tlook T t=some tt){n e:Nat}(hk:tt.k= .arr n e)(hte:tlook T e=some te)
  (cs:Array Value) (k:IntKind) (j:Int) (h0:0≤j) (h1:j<n) {v:Value} (hp:(part te.t cs (j.toNat*te.size)).run P w= .ok v w):
  (Instr.index t (.agg cs) (.int k j)).run P w= .ok v w:=by
 obtain⟨rfl,hts⟩:=tlook_spec hT ht;obtain⟨rfl,hti⟩:=tlook_spec hT hte;have hkk:=hts.kind;rw [hk]at hkk;have hu:=kind_arr hkk;simp [Instr.index,run_underlying hu,asIntOf,h0,h1,hti.sizeOf w,hp]
theorem run_len_sl(hT:checkT P T=true){t:TypeId}{tt:TI}(ht:tlook T t=some tt){e:Nat}(hk:tt.k= .slice e)(a:Option Addr)(n c:Nat)(ty:TypeId):
  (Builtin.len_ #[t] ty #[.slice a n c]).run P w= .ok (goInt n) w:=by
 obtain⟨rfl,hts⟩:=tlook_spec hT ht;have hkk:=hts.kind;rw [hk]at hkk;have hu:=kind_slice hkk;simp [Builtin.len_,run_underlying hu]
theorem run_len_st(hT:checkT P T=true){t:TypeId}{tt:TI}(ht:tlook T t=some tt)(hk:tt.k= .str)(s:ByteArray)(ty:TypeId):
  (Builtin.len_ #[t] ty #[.string s]).run P w= .ok (goInt s.size) w:=by
 obtain⟨rfl,hts⟩:=tlook_spec hT ht;have hkk:=hts.kind;rw [hk]at hkk;have hu:P.underlying tt.t=some .string:=by
  unfold tkOk at hkk;split at hkk<;>simp_all
 simp [Builtin.len_,run_underlying hu]
theorem tab_succ(cols:List Col)(n:Nat):tabCells ρ (n+1) cols=tabCells ρ n cols++rowAt ρ cols n:=by
 unfold tabCells tabL rowAt;rw [List.range_succ,List.flatMap_append];simp
theorem tab_congr(c1 c2:List Col)(n:Nat)(h: ∀i,i<n→rowAt ρ c1 i=rowAt ρ c2 i):tabCells ρ n c1=tabCells ρ n c2:=by
 unfold tabCells tabL;unfold rowAt at h;rw [List.flatMap_def,List.flatMap_def];congr 1;exact List.map_congr_left fun i hi=>h i (List.mem_range.1 hi)
theorem one3{s:Nat}{a b:List Value}{c:Array Value}(ha:s=1∨∀u∈a,u.oneCell'=true)(hb: ∀u∈b,u.oneCell'=true)(hc: ∀u∈c.toList,u.oneCell'=true):
  s=1∨∀u∈(a.toArray++b.toArray++c).toList,u.oneCell'=true:=by
 rcases ha with h | h
 ·exact .inl h
 ·refine .inr fun u hu=>?_
  rw [Array.toList_append,Array.toList_append,List.mem_append,List.mem_append]at hu;rcases hu with(hu | hu) | hu
  ·exact h u hu
  ·exact hb u hu
  ·exact hc u hu
theorem zone{te:TI}{z:Value}(ho:te.zero.all SV.one=true)(hc: ∀ρ,SV.cellsL ρ te.zero=z.cells.toList): ∀u∈z.cells.toList,u.oneCell'=true:=fun u hu=>by
 rw [←hc {}]at hu;exact oneL_cells {} ho (Env.ok {}) u hu
theorem run_append_full(t ty e:TypeId)(i:TypeInfo)(z:Value)(size bytes:Nat)(ht:P.underlying t=some (.slice e))(hi:P.info? e=some i)(hz:i.zero=some z)
  (hsize:i.size=size) (hby:i.bytes=bytes) (hzs:z.cells.size=size) (hz1: ∀u∈z.cells.toList,u.oneCell'=true)
  (b:Addr) (n:Nat) (xs:List Value) (hxs:xs.length=n*size) (hx1: ∀u∈xs,u.oneCell'=true) (holds: ∀j u,xs[j]? =some u→w.cell? (b.add j)=some u)
  (a:Addr) (m c:Nat) (hm:0<m) (news:List Value) (hl:news.length=m*size) (h1: ∀u∈news,u.oneCell'=true) (hnews: ∀j u,news[j]? =some u→w.cell? (a.add j)=some u)
  (h63:n+m≤maxLen) (hbytes:(n+m)*bytes≤140737488355328):
  ∃v' w',(Builtin.append_ #[t,t] ty #[.slice (some b) n n,.slice (some a) m c]).run P w= .ok v' w'∧w'.ownsAt e size v' (n+m) (xs++news)∧w.grownBy w' none∧v'.ownBlock=some w.heap.size:=by
 subst hsize;subst hby;have hlen:(xs++news).length=(n+m)*i.size:=by rw [List.length_append,hxs,hl,Nat.add_mul]
 have hge:=grownCap_ge w (n+m) n e;have hcm':grownCap w (n+m) n e≤maxLen:=grownCap_le_maxLen w (n+m) n e h63;have hr:=run_append_grow (P:=P) w t ty e i z ht hi hz b n n xs hxs holds a m c news hl hnews (by omega) (by simp only [maxLen]at h63;omega) (growslice_fits (by omega) hbytes);refine⟨_,_,hr,⟨hlen,.inr ⟨w.heap.size,0,_,_,rfl,⟨e,_,heap_alloc_new w.drew _,.zero (one3 (.inr hx1) h1 (zeros_one hz1 _))⟩,hge,hcm',?_,?_⟩⟩,⟨rfl,rfl,rfl,by simp,fun k hk _=>heap_alloc_old w.drew _ hk⟩,rfl⟩
 ·simp only [Array.size_append,List.size_toArray,size_zeroCells,hzs,hxs,hl,←Nat.add_mul,Nat.zero_add];intro _;apply Nat.le_of_eq;congr 1;omega
 ·simp only [Array.toList_append,List.drop_zero]
  first
   | (rw [←hlen];exact List.take_left)
   | (rw [List.append_assoc,←List.append_assoc,←hlen];exact List.take_left)
theorem run_append_at(t ty e:TypeId)(i:TypeInfo)(z:Value)(size bytes:Nat)(ht:P.underlying t=some (.slice e))(hi:P.info? e=some i)(hz:i.zero=some z)
  (hsize:i.size=size) (hby:i.bytes=bytes) (hzs:z.cells.size=size) (hz1: ∀u∈z.cells.toList,u.oneCell'=true) (hsz:0<size)
  (v:Value) (n:Nat) (xs:List Value) (hown:w.ownsAt e size v n xs)
  (a:Addr) (m c:Nat) (news:List Value) (hl:news.length=m*size) (hnews: ∀j u,news[j]? =some u→w.cell? (a.add j)=some u) (h1: ∀u∈news,u.oneCell'=true)
  (h63:n+m≤maxLen) (hbytes:(n+m)*bytes≤140737488355328):
  ∃v' w',(Builtin.append_ #[t,t] ty #[v,.slice (some a) m c]).run P w= .ok v' w'∧w'.ownsAt e size v' (n+m) (xs++news)∧w.grownBy w' v.ownBlock∧
   (v'.ownBlock=v.ownBlock∨v'.ownBlock=some w.heap.size):=by
 rcases hown.2 with⟨rfl,rfl⟩ | ⟨g,o,cap,cur,rfl,⟨t',fz,hg,hz'⟩,hnc,hcm,hcs,htk⟩
 ·have hx:xs=[]:=List.eq_nil_of_length_eq_zero (by simpa using hown.1);subst hx;subst hsize;subst hby;by_cases hm0:m=0
  ·subst hm0;have:news=[]:=List.eq_nil_of_length_eq_zero (by simpa using hl);subst this;refine⟨_,w,?_,by simpa using hown,⟨rfl,rfl,rfl,Nat.le_refl _,fun _ _ _=>rfl⟩,.inl rfl⟩;simp [Builtin.append_,run_underlying ht,sizeOf,typeInfo,hi,Builtin.lenOf,Builtin.firstCells,loadCells,loadCellsFrom]
  ·rw [Nat.zero_add]at h63 hbytes ⊢;have hge:=grownCap_ge w m 0 e;have hcm':grownCap w m 0 e≤maxLen:=grownCap_le_maxLen w m 0 e h63;have hr:=run_append_nil (P:=P) w t ty e i z ht hi hz a m c news hl hnews (by omega) (by simp only [maxLen]at h63;omega) (by omega);refine⟨_,_,hr,⟨by simpa using hl,.inr ⟨w.heap.size,0,_,_,rfl,⟨e,_,heap_alloc_new w.drew _,.zero (.inr fun u hu=>by rw [Array.toList_append,List.mem_append]at hu;exact hu.elim (fun h=>h1 u h) (zeros_one hz1 _ u))⟩,hge,hcm',?_,?_⟩⟩,⟨rfl,rfl,rfl,by simp,fun k hk _=>heap_alloc_old w.drew _ hk⟩,Or.inr rfl⟩
   ·simp only [Array.size_append,List.size_toArray,size_zeroCells,hzs,hl,←Nat.add_mul,Nat.zero_add];intro _;apply Nat.le_of_eq;congr 1;omega
   ·simp only [Array.toList_append,List.drop_zero,List.nil_append];rw [←hl];exact List.take_left
 ·subst hsize;subst hby;have hlen:(xs++news).length=(n+m)*i.size:=by rw [List.length_append,hown.1,hl,Nat.add_mul]
  by_cases hroom:n+m≤cap
  ·by_cases hm0:m=0
   ·subst hm0;have:news=[]:=List.eq_nil_of_length_eq_zero (by simpa using hl);subst this;refine⟨_,w,?_,by simpa using hown,⟨rfl,rfl,rfl,Nat.le_refl _,fun _ _ _=>rfl⟩,.inl rfl⟩;simp [Builtin.append_,run_underlying ht,sizeOf,typeInfo,hi,Builtin.lenOf,Builtin.firstCells,hnc,storeCells,loadCells,loadCellsFrom]
   have hcs:=hcs (by omega);have hmul:(n+m)*i.size≤cap*i.size:=Nat.mul_le_mul_right _ hroom;rw [Nat.add_mul]at hmul;have hfit:o+n*i.size+news.length≤cur.size:=by omega
   have hfc:=run_firstCells_some (P:=P) w i.size m a m c news hl hnews;have hst:=run_storeCells_loose (P:=P) g (o+n*i.size) t' fz news 0 cur w hg hz' (by simpa using hfit) h1;simp only [Nat.add_zero]at hst;have hr:(Builtin.append_ #[t,t] ty #[.slice (some ⟨g,o,none⟩) n cap,.slice (some a) m c]).run P w= .ok (.slice (some ⟨g,o,none⟩) (n+m) cap) (w.setRow g (cur.toList.take (o+n*i.size)++news++cur.toList.drop (o+n*i.size+news.length)).toArray):=by
    simp [Builtin.append_,run_underlying ht,sizeOf,typeInfo,hi,Builtin.lenOf,hroom,hfc,addr_add_at,hst]
   refine⟨_,_,hr,⟨hlen,.inr ⟨g,o,cap,_,rfl,⟨t',fz,setRow_heap w g cur _ t' _ hg,Loose.put hz' h1 rfl (by simp only [List.size_toArray,List.length_append,List.length_take,List.length_drop,Array.length_toList]at hfit ⊢;omega)⟩,hroom,hcm,?_,?_⟩⟩,⟨rfl,rfl,rfl,by simp,fun k _ hk=>setRow_other w g k _ (fun e=>hk (by simp [Value.ownBlock,e]))⟩,Or.inl rfl⟩
   ·simp only [List.size_toArray,List.length_append,List.length_take,List.length_drop,Array.length_toList];intro _;omega
   ·have:=take_put_at cur.toList news o (n*i.size) ((n+m)*i.size) (by rw [Nat.add_mul];omega) (by rw [Nat.add_mul];simp;omega);simp only;rw [this,List.take_take,Nat.min_eq_left (by rw [Nat.add_mul];omega),htk,hl,←Nat.add_mul,List.drop_eq_nil_of_le (by rw [List.length_take];exact Nat.min_le_left _ _),List.append_nil]
  ·have hge:=grownCap_ge w (n+m) cap e;have hcm':grownCap w (n+m) cap e≤maxLen:=grownCap_le_maxLen w (n+m) cap e h63;have hr:=run_append_grow (P:=P) w t ty e i z ht hi hz ⟨g,o,none⟩ n cap xs hown.1 (ownsAt_cells hown) a m c news hl hnews (by omega) (by simp only [maxLen]at h63;omega) (growslice_fits (by omega) hbytes);refine⟨_,_,hr,⟨hlen,.inr ⟨w.heap.size,0,_,_,rfl,⟨e,_,heap_alloc_new w.drew _,.zero (one3 (hz'.cells htk) h1 (zeros_one hz1 _))⟩,hge,hcm',?_,?_⟩⟩,⟨rfl,rfl,rfl,by simp,fun k hk _=>heap_alloc_old w.drew _ hk⟩,Or.inr rfl⟩
   ·simp only [Array.size_append,List.size_toArray,size_zeroCells,hzs,hown.1,hl,←Nat.add_mul,Nat.zero_add];intro _;apply Nat.le_of_eq;congr 1;omega
   ·simp only [Array.toList_append,List.drop_zero]
    first
     | (rw [←hlen];exact List.take_left)
     | (rw [List.append_assoc,←List.append_assoc,←hlen];exact List.take_left)
theorem append_sound(hT:checkT P T=true)(hok:ρ.Ok){ts:TypeId}{tt te:TI}(ht:tlook T ts=some tt){e:Nat}(hk:tt.k= .slice e)(hte:tlook T e=some te){s:Nat}(hs:te.size=s)(hs0:0<s)
  {v j j' b cap:Nat} {n:E} {cols cols':List Col} {cs:List SV} {wr:Bool} (hj:hp[j]? =some (.sli true v e s n cols)) (hS:((Ck.sli true v e s n cols).den ρ).p w (S j))
  (_:hp[j']? =some (.row b wr cs)) (hS':((Ck.row b wr cs).den ρ).p w (S j')) (hw:s=colsW cols) (hlen:rowLen cs=s) (hone:cs.all SV.one=true) (hput:colPuts n cs cols=some cols')
  (h0:0≤n.den ρ 0) (hbig:(n.den ρ 0+1)*(max 1 te.bytes:Nat)≤140737488355328) (ty:TypeId):
  Did P ρ w hp S nb nv ((do pure (.value (←Builtin.append_ #[ts,ts] ty #[(SV.vv v).val ρ,.slice (some ⟨ρ.bv.getD b 0,0,none⟩) 1 cap])):Sem Next).run P w)
   {val:= .vv nv,eff:= .app j (.sli true nv e s (eAdd n (.lit 1)) cols')}:=by
 obtain⟨rfl,htt⟩:=tlook_spec hT ht;obtain⟨rfl,hti⟩:=tlook_spec hT hte;have hkk:=htt.kind;rw [hk]at hkk;have hu:=kind_slice hkk;obtain⟨i,hi,hsz,hby,z,hz,hc⟩:=hti.info;have hzs:z.cells.size=te.size:=by rw [←Array.length_toList,←hc ρ,cellsL_length,hti.zlen]
 obtain⟨hown,hblk⟩:=hS;simp only [if_true]at hown;have hbig':((n.den ρ 0).toNat+1)*(max 1 te.bytes)≤140737488355328:=by
  have:(((n.den ρ 0).toNat+1:Nat):Int)=n.den ρ 0+1:=by omega
  rw [←this]at hbig;have h2:((((n.den ρ 0).toNat+1)*(max 1 te.bytes):Nat):Int)≤((140737488355328:Nat):Int):=by rw [Int.natCast_mul];exact hbig
  exact Int.ofNat_le.1 h2
 have hb1:((n.den ρ 0).toNat+1)*1≤((n.den ρ 0).toNat+1)*max 1 te.bytes:=Nat.mul_le_mul_left _ (Nat.le_max_left _ _);have hb2:((n.den ρ 0).toNat+1)*te.bytes≤((n.den ρ 0).toNat+1)*max 1 te.bytes:=Nat.mul_le_mul_left _ (Nat.le_max_right _ _);obtain⟨v',w',hr,how,hg,hbk⟩:=run_append_at (P:=P) (w:=w) tt.t ty te.t i z s te.bytes hu hi hz (by rw [hsz,hs]) hby (by rw [hzs,hs]) (zone hti.one hc) hs0
  _ _ _ hown ⟨ρ.bv.getD b 0,0,none⟩ 1 cap (SV.cellsL ρ cs) (by rw [cellsL_length,Nat.one_mul];exact hlen)
  (fun k u hk=>rowHP_read hS' 0 k u hk) (oneL_cells ρ hone hok) (Nat.le_trans (show(n.den ρ 0).toNat+1≤140737488355328 by omega) (by unfold maxLen;omega)) (by omega)
 have hcells:tabCells ρ ((eAdd n (.lit 1)).den ρ 0).toNat cols'=tabCells ρ (n.den ρ 0).toNat cols++SV.cellsL ρ cs:=by
  have e1:((eAdd n (.lit 1)).den ρ 0).toNat=(n.den ρ 0).toNat+1:=by
   rw [eAdd_den];simp only [E.den];omega
  obtain⟨p1,p2,p3,p4⟩:=colPuts_spec ρ hput;rw [e1,tab_succ,p4,tab_congr cols' cols _ (fun k hk=>p3 k (by omega))];congr 1;rw [List.drop_eq_nil_of_le,List.append_nil];rw [show(rowAt ρ cols (n.den ρ 0).toNat).length=colsW cols from row_length ρ cols _,cellsL_length,←hw];exact Nat.le_of_eq hlen.symm
 refine⟨te.t,s,_,cols',v',w',fun k=>v'.ownBlock=some k,rfl,rfl,by simp only [SV.val,Sem.run_bind,hr,Result.andThen_ok,Sem.run_pure],?_,⟨_,hj,rfl⟩,?_,?_,⟨?_,fun k=>⟨fun h=>⟨h,.inl rfl⟩,fun h=>h.1⟩⟩,?_⟩
 ·rcases how.2 with⟨rfl,_⟩ | ⟨g,o,cap,cur,rfl,_⟩<;>rfl
 ·exact⟨hg.os,hg.tape,hg.output,hg.size⟩
 ·intro k hk hn;refine hg.block k hk fun he=>hn ((hblk k).2 ⟨he.symm,.inl rfl⟩)
 ·simp only [if_true];have e1:((eAdd n (.lit 1)).den ρ 0).toNat=(n.den ρ 0).toNat+1:=by
   rw [eAdd_den];simp only [E.den];omega
  rw [hcells,e1];exact how
 ·intro k hk;rcases hbk with h | h
  ·left;rw [hblk k,←h];exact⟨hk,.inl rfl⟩
  ·right;rw [hk]at h;cases h;exact⟨Nat.le_refl _,ownsAt_lt how hk⟩
theorem append_nil_sound(hT:checkT P T=true)(hok:ρ.Ok){ts:TypeId}{tt te:TI}(ht:tlook T ts=some tt){e:Nat}(hk:tt.k= .slice e)(hte:tlook T e=some te){s:Nat}(hs:te.size=s)(hs0:0<s)
  {j' b cap:Nat} {cols cols':List Col} {cs:List SV} {wr:Bool}
  (hS':((Ck.row b wr cs).den ρ).p w (S j')) (hw:s=colsW cols) (hlen:rowLen cs=s) (hone:cs.all SV.one=true) (hput:colPuts (.lit 0) cs cols=some cols')
  (hbig:te.bytes≤140737488355328) (ty:TypeId):
  Did P ρ w hp S nb nv ((do pure (.value (←Builtin.append_ #[ts,ts] ty #[SV.nils.val ρ,.slice (some ⟨ρ.bv.getD b 0,0,none⟩) 1 cap])):Sem Next).run P w)
   {val:= .vv nv,eff:= .own (.sli true nv e s (.lit 1) cols')}:=by
 obtain⟨rfl,htt⟩:=tlook_spec hT ht;obtain⟨rfl,hti⟩:=tlook_spec hT hte;have hkk:=htt.kind;rw [hk]at hkk;have hu:=kind_slice hkk;obtain⟨i,hi,hsz,hby,z,hz,hc⟩:=hti.info;have hzs:z.cells.size=te.size:=by rw [←Array.length_toList,←hc ρ,cellsL_length,hti.zlen]
 obtain⟨v',w',hr,how,hg,hbk⟩:=run_append_at (P:=P) (w:=w) tt.t ty te.t i z s te.bytes hu hi hz (by rw [hsz,hs]) hby (by rw [hzs,hs]) (zone hti.one hc) hs0
  (.slice none 0 0) 0 [] (ownsAt_nil w te.t s) ⟨ρ.bv.getD b 0,0,none⟩ 1 cap (SV.cellsL ρ cs) (by rw [cellsL_length,Nat.one_mul];exact hlen)
  (fun k u hk=>rowHP_read hS' 0 k u hk) (oneL_cells ρ hone hok) (by unfold maxLen;omega) (by omega)
 have hcells:tabCells ρ 1 cols'=SV.cellsL ρ cs:=by
  obtain⟨p1,p2,p3,p4⟩:=colPuts_spec ρ hput;have e0:tabCells ρ 1 cols'=tabCells ρ 0 cols'++rowAt ρ cols' 0:=tab_succ cols' 0;rw [e0];simp only [E.den,Int.toNat_zero]at p4;rw [p4,List.drop_eq_nil_of_le,List.append_nil]
  ·simp [tabCells,tabL]
  ·rw [show(rowAt ρ cols 0).length=colsW cols from row_length ρ cols _,cellsL_length,←hw];exact Nat.le_of_eq hlen.symm
 refine⟨te.t,s,_,cols',v',w',fun k=>v'.ownBlock=some k,rfl,rfl,by simp only [SV.val,Sem.run_bind,hr,Result.andThen_ok,Sem.run_pure],?_,⟨hg.os,hg.tape,hg.output,hg.size⟩,fun k hk=>hg.block k hk (by simp [Value.ownBlock]),⟨?_,fun k=>⟨fun h=>⟨h,.inl rfl⟩,fun h=>h.1⟩⟩,?_⟩
 ·rcases how.2 with⟨rfl,_⟩ | ⟨g,o,cap,cur,rfl,_⟩<;>rfl
 ·simp only [if_true];have e1:((E.lit 1).den ρ 0).toNat=1:=rfl;rw [e1,hcells];simpa using how
 ·intro k hk;rcases hbk with h | h
  ·rw [hk]at h;cases h
  ·rw [hk]at h;cases h;exact⟨Nat.le_refl _,ownsAt_lt how hk⟩
end
end Go.RX
