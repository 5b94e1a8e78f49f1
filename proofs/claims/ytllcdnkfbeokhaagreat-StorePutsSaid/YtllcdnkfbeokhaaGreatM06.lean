/- Executor. -/
import Derived.Test.YtllcdnkfbeokhaaGreatM05
open Array renaming ext' -> ayw, getElem?_toList -> ayt
open Bool renaming and_eq_true -> ai
open Go.Builtin renaming append_ -> ayA
open Go.Result renaming andThen_ok -> ax0
open Go.Sem renaming run_bind -> ax9, run_pure -> ayj
open Int renaming toNat -> ag
open List renaming append_assoc -> ayl, eq_nil_of_length_eq_zero -> aye, length_append -> axP, length_nil -> aya, map_cons -> ayr, mem_filter -> ayi, mem_range -> ayc
open Option renaming getD_some -> ayG, map_eq_some_iff -> axV
open Option.some renaming injEq -> axU
open Prod.mk renaming injEq -> ayz
namespace Go.RX
def JD(ρ:Env)(nb r:Nat):Ck->Option HP
 | .row b true cs=>if b=nb then some (ak r true (SV.aq ρ cs))else none
 | .map b kl ka va z has aB=>if b=nb then some (pA r kl ka va (SV.aq ρ z) (has.den ρ) λi=>(aB.map (bU.cells ρ)).flatMap λc=>c i)else none
 | .vK b kl ka va z es=>if b=nb then some (vB r kl ka va (SV.aq ρ z) (λi=>r8 es i) λi=>SV.aq ρ (oP es z i))else none
 | .Lq b t e n a=>if b=nb then some (YH r t e (aj .u8 (n.den ρ 0).toNat (a.den ρ)))else none
 | .PY b l p=>if b=nb then some (YF r l p)else none
 | .QN b m=>if b=nb then some (YG r (ρ.bv.getD m 0))else none
 | _=>none
def Did(P:Program)(ρ:Env)(w:World)(hp:List Ck)(S:Nat->Nat->Prop)(nb nv:Nat)(run:Result Next)(res:jf):Prop:=
 match res.jE with
 | .none=>run= .ok (.value (res.val.val ρ)) w
 | .new ck=> ∃w' hpr,JD ρ nb w.heap.size ck=some hpr/\run= .ok (.value (res.val.val (ρ.oN w.heap.size))) w'/\jm w w'/\w'.heap.size=w.heap.size+1/\
   (∀k,k<w.heap.size->w'.heap[k]? =w.heap[k]?)/\hpr.p w' (λk=>k=w.heap.size)
 | .set j ck=> ∃w',(run= .ok (.value (res.val.val ρ)) w'\/(res.val= .undef/\run= .ok .skip w'))/\Dv P w ρ hp S j ck w'
 | .app j ck=> ∃t s n aB v w' S',ck= .cF true nv t s n aB/\res.val= .vv nv/\run= .ok (.value v) w'/\v.oneCell'=true/\
   (∃VR,hp[j]? =some VR/\(VR.den ρ).wr=true)/\jm w w'/\(∀k,k<w.heap.size->¬S j k->w'.heap[k]? =w.heap[k]?)/\
   (aA true t s v (n.den ρ 0).toNat (aL ρ (n.den ρ 0).toNat aB)).p w' S'/\∀k,S' k->S j k\/(w.heap.size<=k/\k<w'.heap.size)
 | .own ck=> ∃t s n aB v w' S',ck= .cF true nv t s n aB/\res.val= .vv nv/\run= .ok (.value v) w'/\v.oneCell'=true/\jm w w'/\(∀k,k<w.heap.size->w'.heap[k]? =w.heap[k]?)/\
   (aA true t s v (n.den ρ 0).toNat (aL ρ (n.den ρ 0).toNat aB)).p w' S'/\∀k,S' k->w.heap.size<=k/\k<w'.heap.size
 | .Gr ck=> ∃t s n aB v w' S',ck= .cF false nv t s n aB/\res.val= .vv nv/\run= .ok (.value v) w'/\v.oneCell'=true/\jm w w'/\(∀k,k<w.heap.size->w'.heap[k]? =w.heap[k]?)/\
   (aA false t s v (n.den ρ 0).toNat (aL ρ (n.den ρ 0).toNat aB)).p w' S'/\∀k,S' k->w.heap.size<=k/\k<w'.heap.size
section
variable {P:Program} {ρ:Env} {w:World} {look:Nat->Option SV} {bF:Operand->Value} {hp:List Ck} {S:Nat->Nat->Prop} {nb nv:Nat} {T:List TI}
theorem kY(ρ:Env)(b:Nat):(ρ.oN b).bv[ρ.bv.length]?.getD 0=b:=by
 simp[Env.oN]
theorem tb(w:World)(cs:Array Value)(e:TypeId)(l:List Value)(hl:cs.toList=l):
  jm w (w.alloc (.cells cs e))/\(w.alloc (.cells cs e)).heap.size=w.heap.size+1/\(∀k,k<w.heap.size->(w.alloc (.cells cs e)).heap[k]? =w.heap[k]?)/\
   (ak w.heap.size true l).p (w.alloc (.cells cs e)) (λk=>k=w.heap.size):=by
 subst hl;refine⟨⟨rfl,rfl,rfl,by simp⟩,by simp,λk hk=>heap_alloc_old w _ hk,λk=>Iff.rfl,e,(0,0),?_,λ_=>rfl⟩;have hn:=heap_alloc_new w (.cells cs e);simpa using hn
theorem Gs(hT:bD P T=true)(Er:ρ.bv.length=nb){t:TypeId}{ti:TI}(ht:aV T t=some ti):
  Did P ρ w hp S nb nv ((do pure (.value (<-Instr.alloc t true (.tuple #[]))):Sem Next).run P w) {val:= .ptr nb 0,jE:= .new (.row nb true ti.zero)}:=by
 obtain⟨rfl,dZ⟩:=aE hT ht;obtain⟨z,hz,hc⟩:=dZ.zero w;obtain⟨h1,h2,h3,h4⟩:=tb w z.cells ti.t (SV.aq ρ ti.zero) (hc ρ).symm;refine⟨_,_,if_pos rfl,?_,h1,h2,h3,h4⟩;subst Er;simp[Instr.alloc,hz,newVar,newRow,SV.val,kY]
theorem NH(hT:bD P T=true)(Er:ρ.bv.length=nb){t:TypeId}{ti:TI}(ht:aV T t=some ti)(e:Nat)(hz0:SV.aq ρ ti.zero=[.pointer none,.slice none 0 0]):
  Did P ρ w hp S nb nv ((do pure (.value (<-Instr.alloc t true (.tuple #[]))):Sem Next).run P w) {val:= .ptr nb 0,jE:= .new (.Lq nb t e (.lit 0) (.lit 0))}:=by
 obtain⟨rfl,dZ⟩:=aE hT ht;obtain⟨z,hz,hc⟩:=dZ.zero w;obtain⟨h1,h2,h3,h4⟩:=tb w z.cells ti.t (SV.aq ρ ti.zero) (hc ρ).symm;refine⟨_,_,if_pos rfl,?_,h1,h2,h3,?_⟩
 .subst Er;simp[Instr.alloc,hz,newVar,newRow,SV.val,kY]
 .have Gt:z.cells= #[.pointer none,.slice none 0 0]:=ayw (by rw[<-hc ρ,hz0]);refine⟨.pointer none,.slice none 0 0,?_,.inl rfl,?_,by simp[Value.ownBlock],λk=>by simp[Value.ownBlock]⟩
  .have hn:=heap_alloc_new w (.cells z.cells ti.t);rw[Gt]at hn;rw[Gt];exact hn
  .simp only[E.den,Int.toNat_zero,aj,List.range_zero,List.map_nil,aya];exact World.ownsRow_nil _ 0 e 1
theorem NI(iW:ρ.Ok)(Er:ρ.bv.length=nb){t:TypeId}{v:SV}{cs:List SV}(nY:fA v=some cs):
  Did P ρ w hp S nb nv ((do pure (.value (<-Instr.box t (v.val ρ))):Sem Next).run P w) {val:= .ptr nb 0,jE:= .new (.row nb true cs)}:=by
 obtain⟨h1,h2,h3,h4⟩:=tb w (v.val ρ).cells t (SV.aq ρ cs) (kr ρ nY iW).1;refine⟨_,_,if_pos rfl,?_,h1,h2,h3,h4⟩;subst Er;simp[Instr.box,newVar,newRow,SV.val,kY]
theorem AO{ti:TI}(dZ:lY P ti){cs x:List SV}{off:Nat}{v:SV}(hx:kK off ti.size cs=some x)(hv:jP ti.k.agg x=some v):
  (part ti.t (SV.aq ρ cs).toArray off).run P w= .ok (v.val ρ) w:=by
 obtain⟨h1,h2⟩:=fy ρ hx;obtain⟨h3,h4⟩:=oV ρ hv;cases ha:ti.k.agg with
 | true=>
  simp only[part,ax9,dZ.isAgg w,ha,ax0,if_true,dZ.sizeOf w,ayj,h3 ha,h1];congr 3;apply ayw;simp[List.extract_eq_take_drop]
 | false=>
  have h5:=h4 ha;rw[h1]at h5;have h6:(SV.aq ρ cs)[off]? =some (v.val ρ):=by
   have:(((SV.aq ρ cs).drop off).take ti.size)[0]? =some (v.val ρ):=by rw[h5];rfl
   rw[List.getElem?_take,List.getElem?_drop]at this;split at this
   .simpa using this
   .cases this
  simp[part,dZ.isAgg w,ha,h6]
theorem yM(hT:bD P T=true): ∀(fs:List Field) (l:List (Nat×Nat)),fs.map (λf=>(f.type,f.offset))=l->r_ T l=true->
  ∃JE,fs.mapM (λf=>(P.info? f.type).map λi=>(f.offset,i.size))=some JE/\∀i,JE[i]? =jI T l i
 | [],l,h,_=>by
  subst h;exact⟨[],rfl,λi=>by simp[jI]⟩
 | f::r,l,h,ha=>by
  subst h;simp only[r_,ayr,List.all_cons,ai]at ha;obtain⟨p,hp,NG⟩:=yM hT r _ rfl (by simpa[r_] using ha.2);obtain⟨ti,dZ⟩:=Option.isSome_iff_exists.1 ha.1;obtain⟨ht,hi⟩:=aE hT dZ;obtain⟨i,h1,h2,_⟩:=hi.info;rw[ht]at h1;refine⟨(f.offset,i.size)::p,?_,λk=>?_⟩
  .simp [List.mapM_cons,h1,hp]
  .cases k with
   | zero=>simp[jI,dZ,h2]
   | succ k=>rw[List.getElem?_cons_succ,NG k];simp[jI]
theorem uE(hT:bD P T=true){ti:TI}{t:TypeId}(ht:aV T t=some ti){fs:List (Nat×Nat)}(hk:ti.k= .struct fs)(oO:r_ T fs=true)
  {ps:List (Nat×List SV)} {vs:Array (Nat×Value)} (hm:gT ρ ps vs.toList) {cs:List SV} (hf:mA (jI T fs) ti.zero ps=some cs):
  (Instr.build t vs).run P w= .ok (.agg (SV.aq ρ cs).toArray) w:=by
 obtain⟨rfl,dZ⟩:=aE hT ht;obtain⟨i,hi,_,_,z,hz,hc⟩:=dZ.info;have eJ:=dZ.kind;rw[hk]at eJ;obtain⟨fa,hu,hfa⟩:=oX eJ;obtain⟨JE,hp,NG⟩:=yM hT fa.toList fs hfa oO;obtain⟨r,hr,hrl⟩:=s_ (ρ:=ρ) (jI T fs) hm hf (hc ρ).symm;have hb:P.built ti.t vs.toList=some r:=by
  unfold Program.built;simp only[hi,hu,hz,hp];rw[<-hr];congr 1;funext k;rw[<-NG k];simp
 rw[run_build w ti.t vs r hb];congr 2;exact ayw (by simpa using hrl)
theorem zC(hT:bD P T=true){ti te:TI}{t:TypeId}(ht:aV T t=some ti){n e:Nat}(hk:ti.k= .arr n e)(kZ:aV T e=some te)
  {ps:List (Nat×List SV)} {vs:Array (Nat×Value)} (hm:gT ρ ps vs.toList) {cs:List SV} (hf:mA (mh te.size) ti.zero ps=some cs):
  (Instr.build t vs).run P w= .ok (.agg (SV.aq ρ cs).toArray) w:=by
 obtain⟨rfl,dZ⟩:=aE hT ht;obtain⟨rfl,NJ⟩:=aE hT kZ;obtain⟨i,hi,_,_,z,hz,hc⟩:=dZ.info;obtain⟨ie,Z6,VY,_⟩:=NJ.info;have eJ:=dZ.kind;rw[hk]at eJ;have hu:=ql eJ;obtain⟨r,hr,hrl⟩:=s_ (ρ:=ρ) (mh te.size) hm hf (hc ρ).symm;have hb:P.built ti.t vs.toList=some r:=by
  unfold Program.built;simp only[hi,hu,hz,Z6,VY];exact hr
 rw[run_build w ti.t vs r hb];congr 2;exact ayw (by simpa using hrl)
theorem NK(n:Nat)(l:List SV):SV.aq ρ (List.replicate n l).flatten=(List.replicate n (SV.aq ρ l)).flatten:=by
 induction n with
 | zero=>rfl
 | succ n ih=>rw[List.replicate_succ,List.replicate_succ,List.flatten_cons,List.flatten_cons,je,ih]
theorem Es(z:Array Value)(len:Nat)(_:0<z.size):((Array.range (len*z.size)).map (z[· %z.size]!)).toList=(List.replicate len z.toList).flatten:=by
 rw[Array.toList_map,Array.toList_range]
 induction len with
 | zero=>simp
 | succ n ih=>
  rw[List.replicate_succ',List.flatten_append,<-ih,Nat.add_mul,Nat.one_mul,List.range_add,List.map_append];congr 1;rw[List.map_map,List.flatten_singleton];apply List.ext_getElem
  .simp
  .intro i h1 h2;have hi:i<z.size:=by simpa using h2
   simp[Nat.add_mod,Nat.mod_eq_of_lt hi,hi]
theorem xC(hT:bD P T=true)(Er:ρ.bv.length=nb){ti te:TI}{t:TypeId}(ht:aV T t=some ti){e:Nat}(hk:ti.k= .slice e)(kZ:aV T e=some te){len:Nat}
  (hlen: ¬(len=0\/te.size=0\/1000<len*te.size)) {ps:List (Nat×List SV)} {vs:Array (Nat×Value)} (hm:gT ρ ps vs.toList) {cs:List SV}
  (hf:mA (mh te.size) (List.replicate len te.zero).flatten ps=some cs):
  Did P ρ w hp S nb nv ((do pure (.value (<-Instr.buildSlice t len vs)):Sem Next).run P w)
   {val:= .sl nb (.lit 0) te.size (.lit len) (.lit len),jE:= .new (.row nb true cs)}:=by
 obtain⟨rfl,dZ⟩:=aE hT ht;obtain⟨rfl,NJ⟩:=aE hT kZ;obtain⟨ie,Z6,VY,_,z,hz,hc⟩:=NJ.info;have eJ:=dZ.kind;rw[hk]at eJ;have hu:=cd eJ;have xD:z.cells.size=te.size:=by
  rw[<-Array.length_toList,<-hc ρ,bJ,NJ.Nu]
 have ajY:((Array.range (len*ie.size)).map (z.cells[· %z.cells.size]!)).toList=SV.aq ρ (List.replicate len te.zero).flatten:=by
  rw[NK,hc ρ,VY,<-xD];exact Es _ _ (by omega)
 obtain⟨r,hr,hrl⟩:=s_ (ρ:=ρ) (mh te.size) hm hf ajY;have uC: ¬len*ie.size=0:=by rw[VY];simp only[Nat.mul_eq_zero];omega
 have hb:=run_buildSlice (P:=P) w ti.t te.t len vs r ie z hu Z6 hz (by rw[VY];omega) uC (by rw[<-hr,VY];rfl);obtain⟨h1,h2,h3,h4⟩:=tb w r te.t (SV.aq ρ cs) hrl;refine⟨_,_,if_pos rfl,?_,h1,h2,h3,h4⟩;subst Er;simp[hb,SV.val,kY,E.den]
end
section
variable {P:Program} {ρ:Env} {w:World} {look:Nat->Option SV} {bF:Operand->Value} {hp:List Ck} {S:Nat->Nat->Prop} {nb nv:Nat} {T:List TI}
theorem dg{i:E}{n:Nat}(h:iH i=some n):i.den ρ 0=n:=by
 unfold iH at h;split at h
 .cases h;rfl
 .cases h
theorem xE(b:Nat)(i:E)(s c:Nat):(Gu b i s c).val ρ= .pointer (some ⟨ρ.bv.getD b 0,(i.den ρ 0).toNat*s+c,none⟩):=by
 unfold Gu;split
 .rename_i n hn;simp[SV.val,dg hn]
 .rfl
theorem vL(hT:bD P T=true){s:TypeId}{ts ti:TI}(hs:aV T s=some ts){fs:List (Nat×Nat)}(hk:ts.k= .struct fs){f t off:Nat}
  (hf:fs[f]? =some (t,off)) (ht:aV T t=some ti) (jR: ¬ti.size=0) (a:Addr):
  (Instr.fieldAt s (.pointer (some a)) f).run P w= .ok (.pointer (some (a.add off))) w:=by
 obtain⟨rfl,vM⟩:=aE hT hs;obtain⟨rfl,dZ⟩:=aE hT ht;have eJ:=vM.kind;rw[hk]at eJ;obtain⟨fa,hu,hfa⟩:=oX eJ;subst hfa;rw[List.getElem?_map,axV]at hf;obtain⟨fd,YO,he⟩:=hf;rw[ayt]at YO;simp only[ayz]at he;have h1:(Go.sizeOf fd.type).run P w= .ok ti.size w:=by rw[he.1];exact dZ.sizeOf w
 simp[Instr.fieldAt,run_underlying hu,YO,Instr.sureAddr,fieldPlace,h1,jR,he.2]
theorem zD(hT:bD P T=true){s:TypeId}{ts ti:TI}(hs:aV T s=some ts){fs:List (Nat×Nat)}(hk:ts.k= .struct fs){f t off:Nat}
  (hf:fs[f]? =some (t,off)) (ht:aV T t=some ti) {cs x:List SV} {v:SV} (hx:kK off ti.size cs=some x) (hv:jP ti.k.agg x=some v):
  (Instr.field s (.agg (SV.aq ρ cs).toArray) f).run P w= .ok (v.val ρ) w:=by
 obtain⟨rfl,vM⟩:=aE hT hs;obtain⟨rfl,dZ⟩:=aE hT ht;have eJ:=vM.kind;rw[hk]at eJ;obtain⟨fa,hu,hfa⟩:=oX eJ;subst hfa;rw[List.getElem?_map,axV]at hf;obtain⟨fd,YO,he⟩:=hf;rw[ayt]at YO;simp only[ayz]at he;have h1:=AO (ρ:=ρ) (w:=w) dZ hx hv;rw[<-he.1,<-he.2]at h1;simp[Instr.field,run_underlying hu,YO,asAgg,h1]
theorem sf(hT:bD P T=true){t:TypeId}{tt te:TI}(ht:aV T t=some tt){e:Nat}(hk:tt.k= .slice e)(kZ:aV T e=some te)
  (a:Addr) (n c:Nat) (k:IntKind) (j:Int) (h0:0<=j) (h1:j<n):
  (Instr.indexAt t (.slice (some a) n c) (.int k j)).run P w= .ok (.pointer (some (a.add (j.toNat*te.size)))) w:=by
 obtain⟨rfl,vM⟩:=aE hT ht;obtain⟨rfl,dZ⟩:=aE hT kZ;have eJ:=vM.kind;rw[hk]at eJ;have hu:=cd eJ;simp[Instr.indexAt,run_underlying hu,asIntOf,h0,h1,dZ.sizeOf w]
theorem AP(hT:bD P T=true){t:TypeId}{tt te:TI}(ht:aV T t=some tt){n e:Nat}(hk:tt.k= .arr n e)(kZ:aV T e=some te)
  (a:Addr) (k:IntKind) (j:Int) (h0:0<=j) (h1:j<n):
  (Instr.indexAt t (.pointer (some a)) (.int k j)).run P w= .ok (.pointer (some (a.add (j.toNat*te.size)))) w:=by
 obtain⟨rfl,vM⟩:=aE hT ht;obtain⟨rfl,dZ⟩:=aE hT kZ;have eJ:=vM.kind;rw[hk]at eJ;have hu:=ql eJ;simp[Instr.indexAt,run_underlying hu,asIntOf,Instr.sureAddr,h0,h1,dZ.sizeOf w]
theorem vN(hT:bD P T=true){t:TypeId}{tt te:TI}(ht:aV T t=some tt){n e:Nat}(hk:tt.k= .arr n e)(kZ:aV T e=some te)
  (cs:Array Value) (k:IntKind) (j:Int) (h0:0<=j) (h1:j<n) {v:Value} (hp:(part te.t cs (j.toNat*te.size)).run P w= .ok v w):
  (Instr.index t (.agg cs) (.int k j)).run P w= .ok v w:=by
 obtain⟨rfl,vM⟩:=aE hT ht;obtain⟨rfl,dZ⟩:=aE hT kZ;have eJ:=vM.kind;rw[hk]at eJ;have hu:=ql eJ;simp[Instr.index,run_underlying hu,asIntOf,h0,h1,dZ.sizeOf w,hp]
theorem qU(hT:bD P T=true){t:TypeId}{tt:TI}(ht:aV T t=some tt){e:Nat}(hk:tt.k= .slice e)(a:Option Addr)(n c:Nat)(ty:TypeId):
  (Builtin.len_ #[t] ty #[.slice a n c]).run P w= .ok (goInt n) w:=by
 obtain⟨rfl,vM⟩:=aE hT ht;have eJ:=vM.kind;rw[hk]at eJ;have hu:=cd eJ;simp[Builtin.len_,run_underlying hu]
theorem AQ(hT:bD P T=true){t:TypeId}{tt:TI}(ht:aV T t=some tt)(hk:tt.k= .str)(s:ByteArray)(ty:TypeId):
  (Builtin.len_ #[t] ty #[.string s]).run P w= .ok (goInt s.size) w:=by
 obtain⟨rfl,vM⟩:=aE hT ht;have eJ:=vM.kind;rw[hk]at eJ;have hu:P.underlying tt.t=some .string:=by
  unfold ku at eJ;split at eJ<;>simp_all
 simp[Builtin.len_,run_underlying hu]
theorem Gv(aB:List bU)(n:Nat):aL ρ (n+1) aB=aL ρ n aB++rowAt ρ aB n:=by
 unfold aL aG rowAt;rw[List.range_succ,List.flatMap_append];simp
theorem tc(c1 c2:List bU)(n:Nat)(h: ∀i,i<n->rowAt ρ c1 i=rowAt ρ c2 i):aL ρ n c1=aL ρ n c2:=by
 unfold aL aG;unfold rowAt at h;rw[List.flatMap_def,List.flatMap_def];congr 1;exact List.map_congr_left λi hi=>h i (ayc.1 hi)
theorem zE(t ty e:TypeId)(i:TypeInfo)(z:Value)(size bytes:Nat)(ht:P.underlying t=some (.slice e))(hi:P.info? e=some i)(hz:i.zero=some z)
  (fY:i.size=size) (FV:i.bytes=bytes) (xD:z.cells.size=size)
  (b:Addr) (n:Nat) (xs:List Value) (Jw:xs.length=n*size) (holds: ∀j u,xs[j]? =some u->w.cell? (b.add j)=some u)
  (a:Addr) (m c:Nat) (hm:0<m) (news:List Value) (hl:news.length=m*size) (Gw: ∀j u,news[j]? =some u->w.cell? (a.add j)=some u)
  (YP:n+m<=maxLen) (xF:(n+m)*bytes<=140737488355328):
  ∃v' w',(ayA #[t,t] ty #[.slice (some b) n n,.slice (some a) m c]).run P w= .ok v' w'/\w'.mW e size v' (n+m) (xs++news)/\w.grownBy w' none/\v'.ownBlock=some w.heap.size:=by
 subst fY;subst FV;have hlen:(xs++news).length=(n+m)*i.size:=by rw[axP,Jw,hl,Nat.add_mul]
 have lS:=grownCap_ge w (n+m) n e;have Z7:grownCap w (n+m) n e<=maxLen:=grownCap_le_maxLen w (n+m) n e YP;have hr:=run_append_grow (P:=P) w t ty e i z ht hi hz b n n xs Jw holds a m c news hl Gw (by omega) (by simp only[maxLen]at YP;omega) (growslice_fits (by omega) xF);refine⟨_,_,hr,⟨hlen,.inr ⟨w.heap.size,0,_,_,rfl,⟨e,_,heap_alloc_new w.drew _,.zero _⟩,lS,Z7,?_,?_⟩⟩,⟨rfl,rfl,rfl,by simp,λk hk _=>heap_alloc_old w.drew _ hk⟩,rfl⟩
 .simp only[Array.size_append,List.size_toArray,size_zeroCells,xD,Jw,hl,<-Nat.add_mul,Nat.zero_add];intro _;apply Nat.le_of_eq;congr 1;omega
 .simp only[Array.toList_append,List.drop_zero]
  first
   | (rw[<-hlen];exact List.take_left)
   | (rw[ayl,<-ayl,<-hlen];exact List.take_left)
theorem pC(t ty e:TypeId)(i:TypeInfo)(z:Value)(size bytes:Nat)(ht:P.underlying t=some (.slice e))(hi:P.info? e=some i)(hz:i.zero=some z)
  (fY:i.size=size) (FV:i.bytes=bytes) (xD:z.cells.size=size) (jR:0<size)
  (v:Value) (n:Nat) (xs:List Value) (eX:w.mW e size v n xs)
  (a:Addr) (m c:Nat) (news:List Value) (hl:news.length=m*size) (Gw: ∀j u,news[j]? =some u->w.cell? (a.add j)=some u) (h1: ∀u∈news,u.oneCell'=true)
  (YP:n+m<=maxLen) (xF:(n+m)*bytes<=140737488355328):
  ∃v' w',(ayA #[t,t] ty #[v,.slice (some a) m c]).run P w= .ok v' w'/\w'.mW e size v' (n+m) (xs++news)/\w.grownBy w' v.ownBlock/\
   (v'.ownBlock=v.ownBlock\/v'.ownBlock=some w.heap.size):=by
 rcases eX.2 with⟨rfl,rfl⟩ | ⟨g,o,cap,cur,rfl,⟨t',fz,hg,PV⟩,Jr,ZX,nY,Ds⟩
 .have hx:xs=[]:=aye (by simpa using eX.1);subst hx;obtain⟨v',w',r1,r2,r3,_,r5⟩:=run_append_own_at (P:=P) w 0 t ty e i z size bytes ht hi hz fY FV xD jR (.slice none 0 0) 0 [] (World.ownsRow_nil w 0 e size) a m c news hl Gw h1 YP xF (Nat.zero_le _);exact⟨v',w',r1,Nm r2,r3,r5⟩
 .subst fY;subst FV;have hlen:(xs++news).length=(n+m)*i.size:=by rw[axP,eX.1,hl,Nat.add_mul]
  by_cases QO:n+m<=cap
  .by_cases NL:m=0
   .subst NL;have:news=[]:=aye (by simpa using hl);subst this;refine⟨_,w,?_,by simpa using eX,⟨rfl,rfl,rfl,Nat.le_refl _,λ_ _ _=>rfl⟩,.inl rfl⟩;simp[ayA,run_underlying ht,sizeOf,typeInfo,hi,Builtin.lenOf,Builtin.firstCells,Jr,storeCells,loadCells,loadCellsFrom]
   have nY:=nY (by omega);have hmul:(n+m)*i.size<=cap*i.size:=Nat.mul_le_mul_right _ QO;rw[Nat.add_mul]at hmul;have si:o+n*i.size+news.length<=cur.size:=by omega
   have hfc:=run_firstCells_some (P:=P) w i.size m a m c news hl Gw;have rY:=jH (P:=P) g (o+n*i.size) t' fz news 0 cur w hg PV (by simpa using si) h1;simp only[Nat.add_zero]at rY;have hr:(ayA #[t,t] ty #[.slice (some ⟨g,o,none⟩) n cap,.slice (some a) m c]).run P w= .ok (.slice (some ⟨g,o,none⟩) (n+m) cap) (w.setRow g (cur.toList.take (o+n*i.size)++news++cur.toList.drop (o+n*i.size+news.length)).toArray):=by
    simp[ayA,run_underlying ht,sizeOf,typeInfo,hi,Builtin.lenOf,QO,hfc,jF,rY]
   refine⟨_,_,hr,⟨hlen,.inr ⟨g,o,cap,_,rfl,⟨t',fz,setRow_heap w g cur _ t' _ hg,by refine Eq.mp (congrArg (tQ · fz) ?_) PV;simp only[List.size_toArray,axP,List.length_take,List.length_drop,Array.length_toList]at si ⊢;omega⟩,QO,ZX,?_,?_⟩⟩,⟨rfl,rfl,rfl,by simp,λk _ hk=>setRow_other w g k _ (λe=>hk (by simp[Value.ownBlock,e]))⟩,Or.inl rfl⟩
   .simp only[List.size_toArray,axP,List.length_take,List.length_drop,Array.length_toList];intro _;omega
   .have:=yG cur.toList news o (n*i.size) ((n+m)*i.size) (by rw[Nat.add_mul];omega) (by rw[Nat.add_mul];simp;omega);simp only;rw[this,List.take_take,Nat.min_eq_left (by rw[Nat.add_mul];omega),Ds,hl,<-Nat.add_mul,List.drop_eq_nil_of_le (by rw[List.length_take];exact Nat.min_le_left _ _),List.append_nil]
  .have lS:=grownCap_ge w (n+m) cap e;have Z7:grownCap w (n+m) cap e<=maxLen:=grownCap_le_maxLen w (n+m) cap e YP;have hr:=run_append_grow (P:=P) w t ty e i z ht hi hz ⟨g,o,none⟩ n cap xs eX.1 (nm eX) a m c news hl Gw (by omega) (by simp only[maxLen]at YP;omega) (growslice_fits (by omega) xF);refine⟨_,_,hr,⟨hlen,.inr ⟨w.heap.size,0,_,_,rfl,⟨e,_,heap_alloc_new w.drew _,.zero _⟩,lS,Z7,?_,?_⟩⟩,⟨rfl,rfl,rfl,by simp,λk hk _=>heap_alloc_old w.drew _ hk⟩,Or.inr rfl⟩
   .simp only[Array.size_append,List.size_toArray,size_zeroCells,xD,eX.1,hl,<-Nat.add_mul,Nat.zero_add];intro _;apply Nat.le_of_eq;congr 1;omega
   .simp only[Array.toList_append,List.drop_zero]
    first
     | (rw[<-hlen];exact List.take_left)
     | (rw[ayl,<-ayl,<-hlen];exact List.take_left)
theorem Et(hT:bD P T=true)(iW:ρ.Ok){ts:TypeId}{tt te:TI}(ht:aV T ts=some tt){e:Nat}(hk:tt.k= .slice e)(kZ:aV T e=some te){s:Nat}(hs:te.size=s)(zF:0<s)
  {v j j' b cap:Nat} {n:E} {aB aS:List bU} {cs:List SV} {wr:Bool} (hj:hp[j]? =some (.cF true v e s n aB)) (hS:((Ck.cF true v e s n aB).den ρ).p w (S j))
  (_:hp[j']? =some (.row b wr cs)) (Z8:((Ck.row b wr cs).den ρ).p w (S j')) (hw:s=cm aB) (hlen:lF cs=s) (lV:cs.all SV.one=true) (nq:mz n cs aB=some aS)
  (h0:0<=n.den ρ 0) (JF:(n.den ρ 0+1)*(max 1 te.bytes:Nat)<=140737488355328) (ty:TypeId):
  Did P ρ w hp S nb nv ((do pure (.value (<-ayA #[ts,ts] ty #[(SV.vv v).val ρ,.slice (some ⟨ρ.bv.getD b 0,0,none⟩) 1 cap])):Sem Next).run P w)
   {val:= .vv nv,jE:= .app j (.cF true nv e s (fl n (.lit 1)) aS)}:=by
 obtain⟨rfl,ji⟩:=aE hT ht;obtain⟨rfl,dZ⟩:=aE hT kZ;have eJ:=ji.kind;rw[hk]at eJ;have hu:=cd eJ;obtain⟨i,hi,jR,FV,z,hz,hc⟩:=dZ.info;have xD:z.cells.size=te.size:=by rw[<-Array.length_toList,<-hc ρ,bJ,dZ.Nu]
 obtain⟨eX,qO⟩:=hS;simp only[if_true]at eX;have apc:((n.den ρ 0).toNat+1)*(max 1 te.bytes)<=140737488355328:=by
  have:(((n.den ρ 0).toNat+1:Nat):Int)=n.den ρ 0+1:=by omega
  rw[<-this]at JF;have h2:((((n.den ρ 0).toNat+1)*(max 1 te.bytes):Nat):Int)<=((140737488355328:Nat):Int):=by rw[Int.natCast_mul];exact JF
  exact Int.ofNat_le.1 h2
 have CJ:((n.den ρ 0).toNat+1)*1<=((n.den ρ 0).toNat+1)*max 1 te.bytes:=Nat.mul_le_mul_left _ (Nat.le_max_left _ _);have FX:((n.den ρ 0).toNat+1)*te.bytes<=((n.den ρ 0).toNat+1)*max 1 te.bytes:=Nat.mul_le_mul_left _ (Nat.le_max_right _ _);obtain⟨v',w',hr,how,hg,Lk⟩:=pC (P:=P) (w:=w) tt.t ty te.t i z s te.bytes hu hi hz (by rw[jR,hs]) FV (by rw[xD,hs]) zF
  _ _ _ eX ⟨ρ.bv.getD b 0,0,none⟩ 1 cap (SV.aq ρ cs) (by rw[bJ,Nat.one_mul];exact hlen)
  (λk u hk=>kM Z8 0 k u hk) (ob ρ lV iW) (Nat.le_trans (show(n.den ρ 0).toNat+1<=140737488355328 by omega) (by unfold maxLen;omega)) (by omega)
 have mX:aL ρ ((fl n (.lit 1)).den ρ 0).toNat aS=aL ρ (n.den ρ 0).toNat aB++SV.aq ρ cs:=by
  have e1:((fl n (.lit 1)).den ρ 0).toNat=(n.den ρ 0).toNat+1:=by
   rw[bK];simp only[E.den];omega
  obtain⟨p1,p2,p3,p4⟩:=jQ ρ nq;rw[e1,Gv,p4,tc aS aB _ (λk hk=>p3 k (by omega))];congr 1;rw[List.drop_eq_nil_of_le,List.append_nil];rw[show(rowAt ρ aB (n.den ρ 0).toNat).length=cm aB from dU ρ aB _,bJ,<-hw];exact Nat.le_of_eq hlen.symm
 refine⟨te.t,s,_,aS,v',w',λk=>v'.ownBlock=some k,rfl,rfl,by simp only[SV.val,ax9,hr,ax0,ayj],?_,⟨_,hj,rfl⟩,?_,?_,⟨?_,λk=>⟨λh=>⟨h,.inl rfl⟩,λh=>h.1⟩⟩,?_⟩
 .rcases how.2 with⟨rfl,_⟩ | ⟨g,o,cap,cur,rfl,_⟩<;>rfl
 .exact⟨hg.os,hg.tape,hg.output,hg.size⟩
 .intro k hk hn;refine hg.block k hk λhe=>hn ((qO k).2 ⟨he.symm,.inl rfl⟩)
 .simp only[if_true];have e1:((fl n (.lit 1)).den ρ 0).toNat=(n.den ρ 0).toNat+1:=by
   rw[bK];simp only[E.den];omega
  rw[mX,e1];exact how
 .intro k hk;rcases Lk with h | h
  .left;rw[qO k,<-h];exact⟨hk,.inl rfl⟩
  .right;rw[hk]at h;cases h;exact⟨Nat.le_refl _,pV how hk⟩
theorem xG(hT:bD P T=true)(iW:ρ.Ok){ts:TypeId}{tt te:TI}(ht:aV T ts=some tt){e:Nat}(hk:tt.k= .slice e)(kZ:aV T e=some te){s:Nat}(hs:te.size=s)(zF:0<s)
  {j' b cap:Nat} {aB aS:List bU} {cs:List SV} {wr:Bool}
  (Z8:((Ck.row b wr cs).den ρ).p w (S j')) (hw:s=cm aB) (hlen:lF cs=s) (lV:cs.all SV.one=true) (nq:mz (.lit 0) cs aB=some aS)
  (JF:te.bytes<=140737488355328) (ty:TypeId):
  Did P ρ w hp S nb nv ((do pure (.value (<-ayA #[ts,ts] ty #[SV.bW.val ρ,.slice (some ⟨ρ.bv.getD b 0,0,none⟩) 1 cap])):Sem Next).run P w)
   {val:= .vv nv,jE:= .own (.cF true nv e s (.lit 1) aS)}:=by
 obtain⟨rfl,ji⟩:=aE hT ht;obtain⟨rfl,dZ⟩:=aE hT kZ;have eJ:=ji.kind;rw[hk]at eJ;have hu:=cd eJ;obtain⟨i,hi,jR,FV,z,hz,hc⟩:=dZ.info;have xD:z.cells.size=te.size:=by rw[<-Array.length_toList,<-hc ρ,bJ,dZ.Nu]
 obtain⟨v',w',hr,how,hg,Lk⟩:=pC (P:=P) (w:=w) tt.t ty te.t i z s te.bytes hu hi hz (by rw[jR,hs]) FV (by rw[xD,hs]) zF
  (.slice none 0 0) 0 [] (qN w te.t s) ⟨ρ.bv.getD b 0,0,none⟩ 1 cap (SV.aq ρ cs) (by rw[bJ,Nat.one_mul];exact hlen)
  (λk u hk=>kM Z8 0 k u hk) (ob ρ lV iW) (by unfold maxLen;omega) (by omega)
 have mX:aL ρ 1 aS=SV.aq ρ cs:=by
  obtain⟨p1,p2,p3,p4⟩:=jQ ρ nq;have e0:aL ρ 1 aS=aL ρ 0 aS++rowAt ρ aS 0:=Gv aS 0;rw[e0];simp only[E.den,Int.toNat_zero]at p4;rw[p4,List.drop_eq_nil_of_le,List.append_nil]
  .simp [aL,aG]
  .rw [show(rowAt ρ aB 0).length=cm aB from dU ρ aB _,bJ,<-hw];exact Nat.le_of_eq hlen.symm
 refine⟨te.t,s,_,aS,v',w',λk=>v'.ownBlock=some k,rfl,rfl,by simp only[SV.val,ax9,hr,ax0,ayj],?_,⟨hg.os,hg.tape,hg.output,hg.size⟩,λk hk=>hg.block k hk (by simp[Value.ownBlock]),⟨?_,λk=>⟨λh=>⟨h,.inl rfl⟩,λh=>h.1⟩⟩,?_⟩
 .rcases how.2 with⟨rfl,_⟩ | ⟨g,o,cap,cur,rfl,_⟩<;>rfl
 .simp only[if_true];have e1:((E.lit 1).den ρ 0).toNat=1:=rfl;rw[e1,mX];simpa using how
 .intro k hk;rcases Lk with h | h
  .rw [hk]at h;cases h
  .rw [hk]at h;cases h;exact⟨Nat.le_refl _,pV how hk⟩
end
section
variable {P:Program} {ρ:Env} {w:World} {look:Nat->Option SV} {bF:Operand->Value} {hp:List Ck} {S:Nat->Nat->Prop} {nb nv:Nat} {T:List TI}
theorem br{a b:E}(h: ∀c∈fD a b,c.prop ρ):a.den ρ 0<=b.den ρ 0:=by
 unfold fD at h;split at h
 .rename_i he;subst he;exact Int.le_refl _
 .have key:(zy a b).den ρ=true:=by
   by_cases hl:zy a b= .lit true
   .rw [hl];rfl
   .exact(BE.bY ρ _).2 (h _ (ayi.2 ⟨by simp,by simpa using hl⟩))
  rw[jN]at key;exact of_decide_eq_true key
theorem zG{a b:E}(h: ∀c∈[Jv a b].filter λb=>b != .lit true,c.prop ρ):a.den ρ 0<b.den ρ 0:=by
 have key:(Jv a b).den ρ=true:=by
  by_cases hl:Jv a b= .lit true
  .rw [hl];rfl
  .exact(BE.bY ρ _).2 (h _ (ayi.2 ⟨by simp,by simpa using hl⟩))
 rw[vD]at key;exact of_decide_eq_true key
theorem bM{α:Type}{q:α->Prop}{a b:List α}(h: ∀c∈a++b,q c):(∀c∈a,q c)/\∀c∈b,q c:=
 ⟨λc hc=>h c (List.mem_append_left _ hc),λc hc=>h c (List.mem_append_right _ hc)⟩
theorem pD(a:Addr):a.add 0=a:=by simp[Addr.add]
theorem Eu(a:Option Addr):a.map (·.add 0)=a:=by cases a<;>simp[pD]
structure aeE (s:Nat) (v x:Value) (n L N:Int) (mx:Option Int):Prop where
 lo:0<=L
 hi:L+N<=n
 top: ∀m,mx=some m->L+N<=m/\m<=n
 is: ∃a c k,v= .slice a n.toNat c/\n.toNat<=c/\x= .slice (a.map (·.add k)) N.toNat ((mx.map ag).getD c - L.toNat)/\(L.toNat<(mx.map ag).getD c\/L=0->k=L.toNat*s)
abbrev Part.den(ρ:Env)(p:Part):Int×Int×Option Int:=(p.lo.den ρ 0,p.len.den ρ 0,p.mx.map λm=>m.den ρ 0)
def oh(ρ:Env)(s:Nat)(v x:Value)(n:E)(p:Part):Prop:=aeE s v x (n.den ρ 0) (p.lo.den ρ 0) (p.len.den ρ 0) (p.mx.map λm=>m.den ρ 0)
theorem oh.whole{s:Nat}{v:Value}{n:E}(h: ∃a c,v= .slice a (n.den ρ 0).toNat c/\(n.den ρ 0).toNat<=c):oh ρ s v v n ⟨.lit 0,n,none⟩:=by
 obtain⟨a,c,hv,hc⟩:=h;refine⟨by simp[E.den],by simp[E.den],by simp,a,c,0,hv,hc,?_,?_⟩
 .rw [Eu];simpa[E.den] using hv
 .simp [E.den]
theorem oh.step{s:Nat}{v x:Value}{n:E}{p:Part}(h:oh ρ s v x n p)(c:Cut)(cA: ∀b∈(oY n p c).2,b.prop ρ):
  oh ρ s v (aK s x (c.lo.den ρ 0).toNat (c.hi.den ρ 0).toNat (c.mx.map λm=>(m.den ρ 0).toNat)) n (oY n p c).1/\
  0<=c.lo.den ρ 0/\c.lo.den ρ 0<=c.hi.den ρ 0/\(∀m,c.mx=some m->c.hi.den ρ 0<=m.den ρ 0)/\
  ∃a N C,x= .slice a N C/\N=(p.len.den ρ 0).toNat/\(c.mx=none->(c.hi.den ρ 0).toNat<=C)/\∀m,c.mx=some m->(m.den ρ 0).toNat<=C:=by
 obtain⟨lo,hi,mx⟩:=c;obtain⟨pl,pn,pm⟩:=p;obtain⟨h1,h2,h3,a,c,k,rfl,hc,rfl,hk⟩:=h;simp only[oY]at cA ⊢;obtain⟨yN,Ja⟩:=bM cA;obtain⟨hv0,yN⟩:=bM yN;have e0:=br hv0;have e1:=br yN;simp only[E.den]at e0;simp only at h1 h2 h3 hk;generalize hL:pl.den ρ 0=L at*;generalize hN:pn.den ρ 0=N at*;generalize hn:n.den ρ 0=nn at*;generalize hl:lo.den ρ 0=l at*;generalize hh:hi.den ρ 0=hd at*;cases mx with
 | none=>
  cases pm with
  | none=>
   simp only[]at Ja;have e2:=br Ja;rw[bK,hL,hh,hn]at e2;simp only[Option.map_none,Option.getD_none]at hk ⊢;refine⟨⟨by simp only[bK,hL,hl];omega,by simp only[bK,gD,hL,hl,hh,hn];omega,by simp,a,c,k+if c - L.toNat=l.toNat then 0 else l.toNat*s,by rw[hn],by rw[hn];exact hc,?_,?_⟩,e0,e1,by simp,_,_,_,rfl,rfl,λ_=>by omega,by simp⟩
   .simp only[aK,Option.map_none,Option.getD_none,bK,gD,hL,hl,hh];congr 1
    .split
     .simp
     .cases a<;>simp[dS]
    .omega
    .omega
   .simp only[bK,hL,hl];intro zH;rcases zH with zH | zH
    .simp only[Option.map_none,Option.getD_none]at zH;rw[if_neg (by omega),hk (.inl (by omega)),<-Nat.add_mul];congr 1;omega
    .have zB:l=0:=by omega
     have hL0:L=0:=by omega
     subst zB hL0;rw[hk (.inr rfl)];simp
  | some m0=>
   simp only[]at Ja;have e2:=br Ja;rw[bK,hL,hh]at e2;simp only[Option.map_some,ayG]at hk h3 ⊢;have h3':=h3 _ rfl;generalize hm:m0.den ρ 0=m at*;refine⟨⟨by simp only[bK,hL,hl];omega,by simp only[bK,gD,hL,hl,hh,hn];omega,?_,a,c,k+if m.toNat - L.toNat=l.toNat then 0 else l.toNat*s,by rw[hn],by rw[hn];exact hc,?_,?_⟩,e0,e1,by simp,_,_,_,rfl,rfl,λ_=>by omega,by simp⟩
   .simp only[Option.map_some,bK,gD,hL,hl,hh,hn,hm,axU];rintro _ rfl;omega
   .simp only[aK,Option.map_none,Option.getD_none,ayG,Option.map_some,bK,gD,hL,hl,hh,hm];congr 1
    .split
     .simp
     .cases a<;>simp[dS]
    .omega
    .omega
   .simp only[bK,hL,hl,Option.map_some,ayG,hm];intro zH;rcases zH with zH | zH
    .rw [if_neg (by omega),hk (.inl (by omega)),<-Nat.add_mul];congr 1;omega
    .have zB:l=0:=by omega
     have hL0:L=0:=by omega
     subst zB hL0;rw[hk (.inr rfl)];simp
 | some mq=>
  have e3:(hd<=mq.den ρ 0)/\L+mq.den ρ 0<=nn/\∀m0,pm=some m0->L+mq.den ρ 0<=m0.den ρ 0:=by
   cases pm with
   | none=>
    simp only[]at Ja;obtain⟨g1,g2⟩:=bM Ja;have g1:=br g1;have g2:=br g2;rw[bK,hL,hn]at g2;rw[hh]at g1;exact⟨g1,g2,by simp⟩
   | some m0=>
    simp only[]at Ja;obtain⟨g1,g2⟩:=bM Ja;have g1:=br g1;have g2:=br g2;rw[bK,hL]at g2;rw[hh]at g1;have:L+N<=m0.den ρ 0/\m0.den ρ 0<=nn:=h3 _ rfl;refine⟨g1,by omega,?_⟩;rintro _ ⟨⟩;exact g2
  obtain⟨e3,e4,e5⟩:=e3;generalize hm:mq.den ρ 0=m at*;have NM:L.toNat+m.toNat<=(Option.map ag (Option.map (λm=>E.den ρ m 0) pm)).getD c:=by
   cases pm with
   | none=>simp only[Option.map_none,Option.getD_none];omega
   | some m0=>
    have:=e5 _ rfl;simp only[Option.map_some,ayG];omega
  generalize (Option.map ag (Option.map (λm=>E.den ρ m 0) pm)).getD c=tp at*;simp only[Option.map_some];refine⟨⟨by simp only[bK,hL,hl];omega,by simp only[bK,gD,hL,hl,hh,hn];omega,?_,a,c,k+if m.toNat=l.toNat then 0 else l.toNat*s,by rw[hn],by rw[hn];exact hc,?_,?_⟩,e0,e1,?_,_,_,_,rfl,rfl,by simp,?_⟩
  .simp only[Option.map_some,bK,gD,hL,hl,hh,hn,hm,axU];rintro _ rfl;omega
  .simp only[aK,ayG,Option.map_some,bK,gD,hL,hl,hh,hm];congr 1
   .split
    .simp
    .cases a<;>simp[dS]
   .omega
   .omega
  .simp only[bK,hL,hl,Option.map_some,ayG,hm];intro zH;rcases zH with zH | zH
   .rw [if_neg (by omega),hk (.inl (by omega)),<-Nat.add_mul];congr 1;omega
   .have zB:l=0:=by omega
    have hL0:L=0:=by omega
    subst zB hL0;rw[hk (.inr rfl)];simp
  .rintro _ ⟨⟩;rw[hm];exact e3
  .rintro _ ⟨⟩;rw[hm];omega
theorem yO{s:Nat}{v:Value}{n:E}: ∀(cs:List Cut) (x:Value) (p:Part),oh ρ s v x n p->(∀b∈(uF n cs p).2,b.prop ρ)->oh ρ s v (dX ρ s x cs) n (uF n cs p).1
 | [],_,_,h,_=>h
 | c::r,x,p,h,cA=>by
  simp only[uF]at cA ⊢;obtain⟨h1,h2⟩:=bM cA;exact yO r _ _ (h.step c h1).1 h2
theorem qn{md:Bool}{t s n:Nat}{v:Value}{cs:List Value}{S:Nat->Prop}(h:(aA md t s v n cs).p w S): ∃a c,v= .slice a n c/\n<=c:=by
 obtain⟨h0,_⟩:=h;cases md with
 | true=>
  simp only[if_true]at h0;rcases h0.2 with⟨rfl,rfl⟩ | ⟨g,o,cap,cur,rfl,_,Jr,_⟩
  .exact⟨_,_,rfl,Nat.le_refl _⟩
  .exact⟨_,_,rfl,Jr⟩
 | false=>
  simp only[Bool.false_eq_true,if_false]at h0;obtain⟨_,a,m,c',rfl,rfl,VM,_⟩:=h0;exact⟨_,_,rfl,VM⟩
theorem gJ{x:SV}{r:Rt}(h:iJ hp x=some r)(dF:Reads hp ρ w S [r.j])(cA: ∀b∈r.vcs,b.prop ρ):
  hp[r.j]? =some (.cF r.md r.v r.t r.s r.n r.aB)/\oh ρ r.s (ρ.vv.getD r.v V1.nil).v (x.val ρ) r.n r.p:=by
 unfold iJ at h;split at h
 .rename_i v;split at h
  .rename_i j md v' t s n aB hf;cases h;obtain⟨hj,er⟩:=dy hf;simp only[Ck.og,beq_iff_eq]at er;subst er;have hS:=dF j (by simp) _ hj;exact⟨hj,oh.whole (qn hS)⟩
  .cases h
 .rename_i v cs s';split at h
  .rename_i j md v' t s n aB hf;split at h
   .rename_i hs;subst hs;cases h;obtain⟨hj,er⟩:=dy hf;simp only[Ck.og,beq_iff_eq]at er;subst er;have hS:=dF j (by simp) _ hj;exact⟨hj,yO cs _ _ (oh.whole (qn hS)) cA⟩
   .cases h
  .cases h
 .cases h
end
end Go.RX
