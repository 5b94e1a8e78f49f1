/- Executor. -/
import Derived.Test.YtphemenngjkfbaaM06
open Go.Builtin renaming append_ → agR
open Go.Instr renaming sliceBounds → ahb
open Go.Result renaming andThen_ok → agG
open Go.Sem renaming run_bind → agK, run_pure → ag0
open Int renaming toNat → ag
open List renaming append_assoc → ahf, append_nil → agL, eq_nil_of_length_eq_zero → agU, map_congr_left → ag4, mem_filter → agP, mem_range → agJ
open Option renaming getD_some → ahe, map_eq_some_iff → agz
open Option.some renaming injEq → agy
open Prod.mk renaming injEq → ag_
namespace Go.RX
section
variable {P:Program} {ρ:Env} {w:World} {look:Nat→Option SV} {bQ:Operand→Value} {hp:List Ck} {S:Nat→Nat→Prop} {nb nv:Nat} {T:List TI}
theorem cM{i:E}{n:Nat}(h:fw i=some n):i.den ρ 0=n:=by
 unfold fw at h;split at h
 ·cases h;rfl
 ·cases h
theorem wL(b:Nat)(i:E)(s c:Nat):(F4 b i s c).val ρ= .pointer (some ⟨ρ.bv.getD b 0,(i.den ρ 0).toNat*s+c,none⟩):=by
 unfold F4;split
 ·rename_i n hn;simp [SV.val,cM hn]
 ·rfl
theorem u3(hT:bC P T=true){s:TypeId}{ts ti:TI}(hs:aW T s=some ts){fs:List (Nat×Nat)}(hk:ts.k= .struct fs){f t off:Nat}
  (hf:fs[f]? =some (t,off)) (ht:aW T t=some ti) (fx: ¬ti.size=0) (a:Addr):
  (Instr.fieldAt s (.pointer (some a)) f).run P w= .ok (.pointer (some (a.add off))) w:=by
 obtain⟨rfl,uK⟩:=ay hT hs;obtain⟨rfl,c9⟩:=ay hT ht;have dg:=uK.kind;rw [hk]at dg;obtain⟨fa,hu,RW⟩:=nR dg;subst RW;rw [List.getElem?_map,agz]at hf;obtain⟨fd,TV,he⟩:=hf;rw [Array.getElem?_toList]at TV;simp only [ag_]at he;have h1:(Go.sizeOf fd.type).run P w= .ok ti.size w:=by rw [he.1];exact c9.sizeOf w
 simp [Instr.fieldAt,run_underlying hu,TV,Instr.sureAddr,fieldPlace,h1,fx,he.2]
theorem yQ(hT:bC P T=true){s:TypeId}{ts ti:TI}(hs:aW T s=some ts){fs:List (Nat×Nat)}(hk:ts.k= .struct fs){f t off:Nat}
  (hf:fs[f]? =some (t,off)) (ht:aW T t=some ti) {cs x:List SV} {v:SV} (hx:jS off ti.size cs=some x) (hv:je ti.k.agg x=some v):
  (Instr.field s (.agg (SV.ar ρ cs).toArray) f).run P w= .ok (v.val ρ) w:=by
 obtain⟨rfl,uK⟩:=ay hT hs;obtain⟨rfl,c9⟩:=ay hT ht;have dg:=uK.kind;rw [hk]at dg;obtain⟨fa,hu,RW⟩:=nR dg;subst RW;rw [List.getElem?_map,agz]at hf;obtain⟨fd,TV,he⟩:=hf;rw [Array.getElem?_toList]at TV;simp only [ag_]at he;have h1:=Aa (ρ:=ρ) (w:=w) c9 hx hv;rw [←he.1,←he.2]at h1;simp [Instr.field,run_underlying hu,TV,asAgg,h1]
theorem qX(hT:bC P T=true){t:TypeId}{tt te:TI}(ht:aW T t=some tt){e:Nat}(hk:tt.k= .slice e)(ik:aW T e=some te)
  (a:Addr) (n c:Nat) (k:IntKind) (j:Int) (h0:0≤j) (h1:j<n):
  (Instr.indexAt t (.slice (some a) n c) (.int k j)).run P w= .ok (.pointer (some (a.add (j.toNat*te.size)))) w:=by
 obtain⟨rfl,uK⟩:=ay hT ht;obtain⟨rfl,c9⟩:=ay hT ik;have dg:=uK.kind;rw [hk]at dg;have hu:=bR dg;simp [Instr.indexAt,run_underlying hu,asIntOf,h0,h1,c9.sizeOf w]
theorem Ab(hT:bC P T=true){t:TypeId}{tt te:TI}(ht:aW T t=some tt){n e:Nat}(hk:tt.k= .arr n e)(ik:aW T e=some te)
  (a:Addr) (k:IntKind) (j:Int) (h0:0≤j) (h1:j<n):
  (Instr.indexAt t (.pointer (some a)) (.int k j)).run P w= .ok (.pointer (some (a.add (j.toNat*te.size)))) w:=by
 obtain⟨rfl,uK⟩:=ay hT ht;obtain⟨rfl,c9⟩:=ay hT ik;have dg:=uK.kind;rw [hk]at dg;have hu:=pc dg;simp [Instr.indexAt,run_underlying hu,asIntOf,Instr.sureAddr,h0,h1,c9.sizeOf w]
theorem u4(hT:bC P T=true){t:TypeId}{tt te:TI}(ht:aW T t=some tt){n e:Nat}(hk:tt.k= .arr n e)(ik:aW T e=some te)
  (cs:Array Value) (k:IntKind) (j:Int) (h0:0≤j) (h1:j<n) {v:Value} (hp:(part te.t cs (j.toNat*te.size)).run P w= .ok v w):
  (Instr.index t (.agg cs) (.int k j)).run P w= .ok v w:=by
 obtain⟨rfl,uK⟩:=ay hT ht;obtain⟨rfl,c9⟩:=ay hT ik;have dg:=uK.kind;rw [hk]at dg;have hu:=pc dg;simp [Instr.index,run_underlying hu,asIntOf,h0,h1,c9.sizeOf w,hp]
theorem pQ(hT:bC P T=true){t:TypeId}{tt:TI}(ht:aW T t=some tt){e:Nat}(hk:tt.k= .slice e)(a:Option Addr)(n c:Nat)(ty:TypeId):
  (Builtin.len_ #[t] ty #[.slice a n c]).run P w= .ok (goInt n) w:=by
 obtain⟨rfl,uK⟩:=ay hT ht;have dg:=uK.kind;rw [hk]at dg;have hu:=bR dg;simp [Builtin.len_,run_underlying hu]
theorem Ad(hT:bC P T=true){t:TypeId}{tt:TI}(ht:aW T t=some tt)(hk:tt.k= .str)(s:ByteArray)(ty:TypeId):
  (Builtin.len_ #[t] ty #[.string s]).run P w= .ok (goInt s.size) w:=by
 obtain⟨rfl,uK⟩:=ay hT ht;have dg:=uK.kind;rw [hk]at dg;have hu:P.underlying tt.t=some .string:=by
  unfold iA at dg;split at dg<;>simp_all
 simp [Builtin.len_,run_underlying hu]
theorem F5(aA:List cb)(n:Nat):aI ρ (n+1) aA=aI ρ n aA++rowAt ρ aA n:=by
 unfold aI aT rowAt;rw [List.range_succ,List.flatMap_append];simp
theorem L4(c1 c2:List cb)(n:Nat)(h: ∀i,i<n→rowAt ρ c1 i=rowAt ρ c2 i):aI ρ n c1=aI ρ n c2:=by
 unfold aI aT;unfold rowAt at h;rw [List.flatMap_def,List.flatMap_def];congr 1;exact ag4 fun i hi=>h i (agJ.1 hi)
theorem qp(t ty e:TypeId)(i:TypeInfo)(z:Value)(size bytes:Nat)(ht:P.underlying t=some (.slice e))(hi:P.info? e=some i)(hz:i.zero=some z)
  (jP:i.size=size) (wq:i.bytes=bytes) (qF:z.cells.size=size)
  (b:Addr) (n:Nat) (xs:List Value) (Ig:xs.length=n*size) (holds: ∀j u,xs[j]? =some u→w.cell? (b.add j)=some u)
  (a:Addr) (m c:Nat) (hm:0<m) (news:List Value) (hl:news.length=m*size) (F6: ∀j u,news[j]? =some u→w.cell? (a.add j)=some u)
  (Ri:n+m≤maxLen) (pR:(n+m)*bytes≤140737488355328):
  ∃v' w',(agR #[t,t] ty #[.slice (some b) n n,.slice (some a) m c]).run P w= .ok v' w'∧w'.iK e size v' (n+m) (xs++news)∧w.grownBy w' none∧v'.ownBlock=some w.heap.size:=by
 subst jP;subst wq;have hlen:(xs++news).length=(n+m)*i.size:=by rw [List.length_append,Ig,hl,Nat.add_mul]
 have uJ:=grownCap_ge w (n+m) n e;have N5:grownCap w (n+m) n e≤maxLen:=grownCap_le_maxLen w (n+m) n e Ri;have hr:=run_append_grow (P:=P) w t ty e i z ht hi hz b n n xs Ig holds a m c news hl F6 (by omega) (by simp only [maxLen]at Ri;omega) (growslice_fits (by omega) pR);refine⟨_,_,hr,⟨hlen,.inr ⟨w.heap.size,0,_,_,rfl,⟨e,_,heap_alloc_new w.drew _,.zero _⟩,uJ,N5,?_,?_⟩⟩,⟨rfl,rfl,rfl,by simp,fun k hk _=>heap_alloc_old w.drew _ hk⟩,rfl⟩
 ·simp only [Array.size_append,List.size_toArray,size_zeroCells,qF,Ig,hl,←Nat.add_mul,Nat.zero_add];intro _;apply Nat.le_of_eq;congr 1;omega
 ·simp only [Array.toList_append,List.drop_zero]
  first
   | (rw [←hlen];exact List.take_left)
   | (rw [ahf,←ahf,←hlen];exact List.take_left)
theorem oA(t ty e:TypeId)(i:TypeInfo)(z:Value)(size bytes:Nat)(ht:P.underlying t=some (.slice e))(hi:P.info? e=some i)(hz:i.zero=some z)
  (jP:i.size=size) (wq:i.bytes=bytes) (qF:z.cells.size=size) (fx:0<size)
  (v:Value) (n:Nat) (xs:List Value) (cU:w.iK e size v n xs)
  (a:Addr) (m c:Nat) (news:List Value) (hl:news.length=m*size) (F6: ∀j u,news[j]? =some u→w.cell? (a.add j)=some u) (h1: ∀u∈news,u.oneCell'=true)
  (Ri:n+m≤maxLen) (pR:(n+m)*bytes≤140737488355328):
  ∃v' w',(agR #[t,t] ty #[v,.slice (some a) m c]).run P w= .ok v' w'∧w'.iK e size v' (n+m) (xs++news)∧w.grownBy w' v.ownBlock∧
   (v'.ownBlock=v.ownBlock∨v'.ownBlock=some w.heap.size):=by
 rcases cU.2 with⟨rfl,rfl⟩ | ⟨g,o,cap,cur,rfl,⟨t',fz,hg,Ih⟩,FL,RI,l6,B0⟩
 ·have hx:xs=[]:=agU (by simpa using cU.1);subst hx;obtain⟨v',w',r1,r2,r3,_,r5⟩:=run_append_own_at (P:=P) w 0 t ty e i z size bytes ht hi hz jP wq qF fx (.slice none 0 0) 0 [] (World.ownsRow_nil w 0 e size) a m c news hl F6 h1 Ri pR (Nat.zero_le _);exact⟨v',w',r1,LG r2,r3,r5⟩
 ·subst jP;subst wq;have hlen:(xs++news).length=(n+m)*i.size:=by rw [List.length_append,cU.1,hl,Nat.add_mul]
  by_cases u5:n+m≤cap
  ·by_cases F7:m=0
   ·subst F7;have:news=[]:=agU (by simpa using hl);subst this;refine⟨_,w,?_,by simpa using cU,⟨rfl,rfl,rfl,Nat.le_refl _,fun _ _ _=>rfl⟩,.inl rfl⟩;simp [agR,run_underlying ht,sizeOf,typeInfo,hi,Builtin.lenOf,Builtin.firstCells,FL,storeCells,loadCells,loadCellsFrom]
   have l6:=l6 (by omega);have hmul:(n+m)*i.size≤cap*i.size:=Nat.mul_le_mul_right _ u5;rw [Nat.add_mul]at hmul;have tZ:o+n*i.size+news.length≤cur.size:=by omega
   have hfc:=run_firstCells_some (P:=P) w i.size m a m c news hl F6;have lG:=e_ (P:=P) g (o+n*i.size) t' fz news 0 cur w hg Ih (by simpa using tZ) h1;simp only [Nat.add_zero]at lG;have hr:(agR #[t,t] ty #[.slice (some ⟨g,o,none⟩) n cap,.slice (some a) m c]).run P w= .ok (.slice (some ⟨g,o,none⟩) (n+m) cap) (w.setRow g (cur.toList.take (o+n*i.size)++news++cur.toList.drop (o+n*i.size+news.length)).toArray):=by
    simp [agR,run_underlying ht,sizeOf,typeInfo,hi,Builtin.lenOf,u5,hfc,eZ,lG]
   refine⟨_,_,hr,⟨hlen,.inr ⟨g,o,cap,_,rfl,⟨t',fz,setRow_heap w g cur _ t' _ hg,by refine Eq.mp (congrArg (sW · fz) ?_) Ih;simp only [List.size_toArray,List.length_append,List.length_take,List.length_drop,Array.length_toList]at tZ ⊢;omega⟩,u5,RI,?_,?_⟩⟩,⟨rfl,rfl,rfl,by simp,fun k _ hk=>setRow_other w g k _ (fun e=>hk (by simp [Value.ownBlock,e]))⟩,Or.inl rfl⟩
   ·simp only [List.size_toArray,List.length_append,List.length_take,List.length_drop,Array.length_toList];intro _;omega
   ·have:=qR cur.toList news o (n*i.size) ((n+m)*i.size) (by rw [Nat.add_mul];omega) (by rw [Nat.add_mul];simp;omega);simp only;rw [this,List.take_take,Nat.min_eq_left (by rw [Nat.add_mul];omega),B0,hl,←Nat.add_mul,List.drop_eq_nil_of_le (by rw [List.length_take];exact Nat.min_le_left _ _),agL]
  ·have uJ:=grownCap_ge w (n+m) cap e;have N5:grownCap w (n+m) cap e≤maxLen:=grownCap_le_maxLen w (n+m) cap e Ri;have hr:=run_append_grow (P:=P) w t ty e i z ht hi hz ⟨g,o,none⟩ n cap xs cU.1 (jQ cU) a m c news hl F6 (by omega) (by simp only [maxLen]at Ri;omega) (growslice_fits (by omega) pR);refine⟨_,_,hr,⟨hlen,.inr ⟨w.heap.size,0,_,_,rfl,⟨e,_,heap_alloc_new w.drew _,.zero _⟩,uJ,N5,?_,?_⟩⟩,⟨rfl,rfl,rfl,by simp,fun k hk _=>heap_alloc_old w.drew _ hk⟩,Or.inr rfl⟩
   ·simp only [Array.size_append,List.size_toArray,size_zeroCells,qF,cU.1,hl,←Nat.add_mul,Nat.zero_add];intro _;apply Nat.le_of_eq;congr 1;omega
   ·simp only [Array.toList_append,List.drop_zero]
    first
     | (rw [←hlen];exact List.take_left)
     | (rw [ahf,←ahf,←hlen];exact List.take_left)
theorem Er(hT:bC P T=true)(mY:ρ.Ok){ts:TypeId}{tt te:TI}(ht:aW T ts=some tt){e:Nat}(hk:tt.k= .slice e)(ik:aW T e=some te){s:Nat}(hs:te.size=s)(qG:0<s)
  {v j j' b cap:Nat} {n:E} {aA aV:List cb} {cs:List SV} {wr:Bool} (hj:hp[j]? =some (.cy true v e s n aA)) (hS:((Ck.cy true v e s n aA).den ρ).p w (S j))
  (_:hp[j']? =some (.row b wr cs)) (RZ:((Ck.row b wr cs).den ρ).p w (S j')) (hw:s=cn aA) (hlen:kW cs=s) (jJ:cs.all SV.one=true) (qT:mD n cs aA=some aV)
  (h0:0≤n.den ρ 0) (Ir:(n.den ρ 0+1)*(max 1 te.bytes:Nat)≤140737488355328) (ty:TypeId):
  Did P ρ w hp S nb nv ((do pure (.value (←agR #[ts,ts] ty #[(SV.vv v).val ρ,.slice (some ⟨ρ.bv.getD b 0,0,none⟩) 1 cap])):Sem Next).run P w)
   {val:= .vv nv,ij:= .app j (.cy true nv e s (dV n (.lit 1)) aV)}:=by
 obtain⟨rfl,fL⟩:=ay hT ht;obtain⟨rfl,c9⟩:=ay hT ik;have dg:=fL.kind;rw [hk]at dg;have hu:=bR dg;obtain⟨i,hi,fx,wq,z,hz,hc⟩:=c9.info;have qF:z.cells.size=te.size:=by rw [←Array.length_toList,←hc ρ,bw,c9.B6]
 obtain⟨cU,kP⟩:=hS;simp only [if_true]at cU;have adb:((n.den ρ 0).toNat+1)*(max 1 te.bytes)≤140737488355328:=by
  have:(((n.den ρ 0).toNat+1:Nat):Int)=n.den ρ 0+1:=by omega
  rw [←this]at Ir;have h2:((((n.den ρ 0).toNat+1)*(max 1 te.bytes):Nat):Int)≤((140737488355328:Nat):Int):=by rw [Int.natCast_mul];exact Ir
  exact Int.ofNat_le.1 h2
 have ZF:((n.den ρ 0).toNat+1)*1≤((n.den ρ 0).toNat+1)*max 1 te.bytes:=Nat.mul_le_mul_left _ (Nat.le_max_left _ _);have WW:((n.den ρ 0).toNat+1)*te.bytes≤((n.den ρ 0).toNat+1)*max 1 te.bytes:=Nat.mul_le_mul_left _ (Nat.le_max_right _ _);obtain⟨v',w',hr,how,hg,Nz⟩:=oA (P:=P) (w:=w) tt.t ty te.t i z s te.bytes hu hi hz (by rw [fx,hs]) wq (by rw [qF,hs]) qG
  _ _ _ cU ⟨ρ.bv.getD b 0,0,none⟩ 1 cap (SV.ar ρ cs) (by rw [bw,Nat.one_mul];exact hlen)
  (fun k u hk=>jk RZ 0 k u hk) (mZ ρ jJ mY) (Nat.le_trans (show(n.den ρ 0).toNat+1≤140737488355328 by omega) (by unfold maxLen;omega)) (by omega)
 have fM:aI ρ ((dV n (.lit 1)).den ρ 0).toNat aV=aI ρ (n.den ρ 0).toNat aA++SV.ar ρ cs:=by
  have e1:((dV n (.lit 1)).den ρ 0).toNat=(n.den ρ 0).toNat+1:=by
   rw [bN];simp only [E.den];omega
  obtain⟨p1,p2,p3,p4⟩:=jT ρ qT;rw [e1,F5,p4,L4 aV aA _ (fun k hk=>p3 k (by omega))];congr 1;rw [List.drop_eq_nil_of_le,agL];rw [show(rowAt ρ aA (n.den ρ 0).toNat).length=cn aA from dH ρ aA _,bw,←hw];exact Nat.le_of_eq hlen.symm
 refine⟨te.t,s,_,aV,v',w',fun k=>v'.ownBlock=some k,rfl,rfl,by simp only [SV.val,agK,hr,agG,ag0],?_,⟨_,hj,rfl⟩,?_,?_,⟨?_,fun k=>⟨fun h=>⟨h,.inl rfl⟩,fun h=>h.1⟩⟩,?_⟩
 ·rcases how.2 with⟨rfl,_⟩ | ⟨g,o,cap,cur,rfl,_⟩<;>rfl
 ·exact⟨hg.os,hg.tape,hg.output,hg.size⟩
 ·intro k hk hn;refine hg.block k hk fun he=>hn ((kP k).2 ⟨he.symm,.inl rfl⟩)
 ·simp only [if_true];have e1:((dV n (.lit 1)).den ρ 0).toNat=(n.den ρ 0).toNat+1:=by
   rw [bN];simp only [E.den];omega
  rw [fM,e1];exact how
 ·intro k hk;rcases Nz with h | h
  ·left;rw [kP k,←h];exact⟨hk,.inl rfl⟩
  ·right;rw [hk]at h;cases h;exact⟨Nat.le_refl _,iu how hk⟩
theorem wM(hT:bC P T=true)(mY:ρ.Ok){ts:TypeId}{tt te:TI}(ht:aW T ts=some tt){e:Nat}(hk:tt.k= .slice e)(ik:aW T e=some te){s:Nat}(hs:te.size=s)(qG:0<s)
  {j' b cap:Nat} {aA aV:List cb} {cs:List SV} {wr:Bool}
  (RZ:((Ck.row b wr cs).den ρ).p w (S j')) (hw:s=cn aA) (hlen:kW cs=s) (jJ:cs.all SV.one=true) (qT:mD (.lit 0) cs aA=some aV)
  (Ir:te.bytes≤140737488355328) (ty:TypeId):
  Did P ρ w hp S nb nv ((do pure (.value (←agR #[ts,ts] ty #[SV.bY.val ρ,.slice (some ⟨ρ.bv.getD b 0,0,none⟩) 1 cap])):Sem Next).run P w)
   {val:= .vv nv,ij:= .own (.cy true nv e s (.lit 1) aV)}:=by
 obtain⟨rfl,fL⟩:=ay hT ht;obtain⟨rfl,c9⟩:=ay hT ik;have dg:=fL.kind;rw [hk]at dg;have hu:=bR dg;obtain⟨i,hi,fx,wq,z,hz,hc⟩:=c9.info;have qF:z.cells.size=te.size:=by rw [←Array.length_toList,←hc ρ,bw,c9.B6]
 obtain⟨v',w',hr,how,hg,Nz⟩:=oA (P:=P) (w:=w) tt.t ty te.t i z s te.bytes hu hi hz (by rw [fx,hs]) wq (by rw [qF,hs]) qG
  (.slice none 0 0) 0 [] (kO w te.t s) ⟨ρ.bv.getD b 0,0,none⟩ 1 cap (SV.ar ρ cs) (by rw [bw,Nat.one_mul];exact hlen)
  (fun k u hk=>jk RZ 0 k u hk) (mZ ρ jJ mY) (by unfold maxLen;omega) (by omega)
 have fM:aI ρ 1 aV=SV.ar ρ cs:=by
  obtain⟨p1,p2,p3,p4⟩:=jT ρ qT;have e0:aI ρ 1 aV=aI ρ 0 aV++rowAt ρ aV 0:=F5 aV 0;rw [e0];simp only [E.den,Int.toNat_zero]at p4;rw [p4,List.drop_eq_nil_of_le,agL]
  ·simp [aI,aT]
  ·rw [show(rowAt ρ aA 0).length=cn aA from dH ρ aA _,bw,←hw];exact Nat.le_of_eq hlen.symm
 refine⟨te.t,s,_,aV,v',w',fun k=>v'.ownBlock=some k,rfl,rfl,by simp only [SV.val,agK,hr,agG,ag0],?_,⟨hg.os,hg.tape,hg.output,hg.size⟩,fun k hk=>hg.block k hk (by simp [Value.ownBlock]),⟨?_,fun k=>⟨fun h=>⟨h,.inl rfl⟩,fun h=>h.1⟩⟩,?_⟩
 ·rcases how.2 with⟨rfl,_⟩ | ⟨g,o,cap,cur,rfl,_⟩<;>rfl
 ·simp only [if_true];have e1:((E.lit 1).den ρ 0).toNat=1:=rfl;rw [e1,fM];simpa using how
 ·intro k hk;rcases Nz with h | h
  ·rw [hk]at h;cases h
  ·rw [hk]at h;cases h;exact⟨Nat.le_refl _,iu how hk⟩
end
section
variable {P:Program} {ρ:Env} {w:World} {look:Nat→Option SV} {bQ:Operand→Value} {hp:List Ck} {S:Nat→Nat→Prop} {nb nv:Nat} {T:List TI}
theorem bg{a b:E}(h: ∀c∈eh a b,c.prop ρ):a.den ρ 0≤b.den ρ 0:=by
 unfold eh at h;split at h
 ·rename_i he;subst he;exact Int.le_refl _
 ·have key:(yM a b).den ρ=true:=by
   by_cases hl:yM a b= .lit true
   ·rw [hl];rfl
   ·exact(BE.cq ρ _).2 (h _ (agP.2 ⟨by simp,by simpa using hl⟩))
  rw [iy]at key;exact of_decide_eq_true key
theorem yR{a b:E}(h: ∀c∈[Ie a b].filter fun b=>b != .lit true,c.prop ρ):a.den ρ 0<b.den ρ 0:=by
 have key:(Ie a b).den ρ=true:=by
  by_cases hl:Ie a b= .lit true
  ·rw [hl];rfl
  ·exact(BE.cq ρ _).2 (h _ (agP.2 ⟨by simp,by simpa using hl⟩))
 rw [uV]at key;exact of_decide_eq_true key
theorem bB{α:Type}{q:α→Prop}{a b:List α}(h: ∀c∈a++b,q c):(∀c∈a,q c)∧∀c∈b,q c:=
 ⟨fun c hc=>h c (List.mem_append_left _ hc),fun c hc=>h c (List.mem_append_right _ hc)⟩
theorem lv(a:Addr):a.add 0=a:=by simp [Addr.add]
theorem Es(a:Option Addr):a.map (·.add 0)=a:=by cases a<;>simp [lv]
structure XA (s:Nat) (v x:Value) (n L N:Int) (mx:Option Int):Prop where
 lo:0≤L
 hi:L+N≤n
 top: ∀m,mx=some m→L+N≤m∧m≤n
 is: ∃a c k,v= .slice a n.toNat c∧n.toNat≤c∧x= .slice (a.map (·.add k)) N.toNat ((mx.map ag).getD c - L.toNat)∧(L.toNat<(mx.map ag).getD c∨L=0→k=L.toNat*s)
abbrev Part.den(ρ:Env)(p:Part):Int×Int×Option Int:=(p.lo.den ρ 0,p.len.den ρ 0,p.mx.map fun m=>m.den ρ 0)
def mu(ρ:Env)(s:Nat)(v x:Value)(n:E)(p:Part):Prop:=XA s v x (n.den ρ 0) (p.lo.den ρ 0) (p.len.den ρ 0) (p.mx.map fun m=>m.den ρ 0)
theorem mu.whole{s:Nat}{v:Value}{n:E}(h: ∃a c,v= .slice a (n.den ρ 0).toNat c∧(n.den ρ 0).toNat≤c):mu ρ s v v n ⟨.lit 0,n,none⟩:=by
 obtain⟨a,c,hv,hc⟩:=h;refine⟨by simp [E.den],by simp [E.den],by simp,a,c,0,hv,hc,?_,?_⟩
 ·rw [Es];simpa [E.den] using hv
 ·simp [E.den]
theorem mu.step{s:Nat}{v x:Value}{n:E}{p:Part}(h:mu ρ s v x n p)(c:Cut)(cu: ∀b∈(gS n p c).2,b.prop ρ):
  mu ρ s v (bT s x (c.lo.den ρ 0).toNat (c.hi.den ρ 0).toNat (c.mx.map fun m=>(m.den ρ 0).toNat)) n (gS n p c).1∧
  0≤c.lo.den ρ 0∧c.lo.den ρ 0≤c.hi.den ρ 0∧(∀m,c.mx=some m→c.hi.den ρ 0≤m.den ρ 0)∧
  ∃a N C,x= .slice a N C∧N=(p.len.den ρ 0).toNat∧(c.mx=none→(c.hi.den ρ 0).toNat≤C)∧∀m,c.mx=some m→(m.den ρ 0).toNat≤C:=by
 obtain⟨lo,hi,mx⟩:=c;obtain⟨pl,pn,pm⟩:=p;obtain⟨h1,h2,h3,a,c,k,rfl,hc,rfl,hk⟩:=h;simp only [gS]at cu ⊢;obtain⟨xV,HY⟩:=bB cu;obtain⟨ZG,xV⟩:=bB xV;have e0:=bg ZG;have e1:=bg xV;simp only [E.den]at e0;simp only at h1 h2 h3 hk;generalize hL:pl.den ρ 0=L at*;generalize hN:pn.den ρ 0=N at*;generalize hn:n.den ρ 0=nn at*;generalize hl:lo.den ρ 0=l at*;generalize hh:hi.den ρ 0=hd at*;cases mx with
 | none=>
  cases pm with
  | none=>
   simp only []at HY;have e2:=bg HY;rw [bN,hL,hh,hn]at e2;simp only [Option.map_none,Option.getD_none]at hk ⊢;refine⟨⟨by simp only [bN,hL,hl];omega,by simp only [bN,e8,hL,hl,hh,hn];omega,by simp,a,c,k+if c - L.toNat=l.toNat then 0 else l.toNat*s,by rw [hn],by rw [hn];exact hc,?_,?_⟩,e0,e1,by simp,_,_,_,rfl,rfl,fun _=>by omega,by simp⟩
   ·simp only [bT,Option.map_none,Option.getD_none,bN,e8,hL,hl,hh];congr 1
    ·split
     ·simp
     ·cases a<;>simp [dK]
    ·omega
    ·omega
   ·simp only [bN,hL,hl];intro Af;rcases Af with Af | Af
    ·simp only [Option.map_none,Option.getD_none]at Af;rw [if_neg (by omega),hk (.inl (by omega)),←Nat.add_mul];congr 1;omega
    ·have Kk:l=0:=by omega
     have XB:L=0:=by omega
     subst Kk XB;rw [hk (.inr rfl)];simp
  | some m0=>
   simp only []at HY;have e2:=bg HY;rw [bN,hL,hh]at e2;simp only [Option.map_some,ahe]at hk h3 ⊢;have h3':=h3 _ rfl;generalize hm:m0.den ρ 0=m at*;refine⟨⟨by simp only [bN,hL,hl];omega,by simp only [bN,e8,hL,hl,hh,hn];omega,?_,a,c,k+if m.toNat - L.toNat=l.toNat then 0 else l.toNat*s,by rw [hn],by rw [hn];exact hc,?_,?_⟩,e0,e1,by simp,_,_,_,rfl,rfl,fun _=>by omega,by simp⟩
   ·simp only [Option.map_some,bN,e8,hL,hl,hh,hn,hm,agy];rintro _ rfl;omega
   ·simp only [bT,Option.map_none,Option.getD_none,ahe,Option.map_some,bN,e8,hL,hl,hh,hm];congr 1
    ·split
     ·simp
     ·cases a<;>simp [dK]
    ·omega
    ·omega
   ·simp only [bN,hL,hl,Option.map_some,ahe,hm];intro Af;rcases Af with Af | Af
    ·rw [if_neg (by omega),hk (.inl (by omega)),←Nat.add_mul];congr 1;omega
    ·have Kk:l=0:=by omega
     have XB:L=0:=by omega
     subst Kk XB;rw [hk (.inr rfl)];simp
 | some mq=>
  have e3:(hd≤mq.den ρ 0)∧L+mq.den ρ 0≤nn∧∀m0,pm=some m0→L+mq.den ρ 0≤m0.den ρ 0:=by
   cases pm with
   | none=>
    simp only []at HY;obtain⟨g1,g2⟩:=bB HY;have g1:=bg g1;have g2:=bg g2;rw [bN,hL,hn]at g2;rw [hh]at g1;exact⟨g1,g2,by simp⟩
   | some m0=>
    simp only []at HY;obtain⟨g1,g2⟩:=bB HY;have g1:=bg g1;have g2:=bg g2;rw [bN,hL]at g2;rw [hh]at g1;have:L+N≤m0.den ρ 0∧m0.den ρ 0≤nn:=h3 _ rfl;refine⟨g1,by omega,?_⟩;rintro _ ⟨⟩;exact g2
  obtain⟨e3,e4,e5⟩:=e3;generalize hm:mq.den ρ 0=m at*;have L5:L.toNat+m.toNat≤(Option.map ag (Option.map (fun m=>E.den ρ m 0) pm)).getD c:=by
   cases pm with
   | none=>simp only [Option.map_none,Option.getD_none];omega
   | some m0=>
    have:=e5 _ rfl;simp only [Option.map_some,ahe];omega
  generalize (Option.map ag (Option.map (fun m=>E.den ρ m 0) pm)).getD c=tp at*;simp only [Option.map_some];refine⟨⟨by simp only [bN,hL,hl];omega,by simp only [bN,e8,hL,hl,hh,hn];omega,?_,a,c,k+if m.toNat=l.toNat then 0 else l.toNat*s,by rw [hn],by rw [hn];exact hc,?_,?_⟩,e0,e1,?_,_,_,_,rfl,rfl,by simp,?_⟩
  ·simp only [Option.map_some,bN,e8,hL,hl,hh,hn,hm,agy];rintro _ rfl;omega
  ·simp only [bT,ahe,Option.map_some,bN,e8,hL,hl,hh,hm];congr 1
   ·split
    ·simp
    ·cases a<;>simp [dK]
   ·omega
   ·omega
  ·simp only [bN,hL,hl,Option.map_some,ahe,hm];intro Af;rcases Af with Af | Af
   ·rw [if_neg (by omega),hk (.inl (by omega)),←Nat.add_mul];congr 1;omega
   ·have Kk:l=0:=by omega
    have XB:L=0:=by omega
    subst Kk XB;rw [hk (.inr rfl)];simp
  ·rintro _ ⟨⟩;rw [hm];exact e3
  ·rintro _ ⟨⟩;rw [hm];omega
theorem xW{s:Nat}{v:Value}{n:E}: ∀(cs:List Cut) (x:Value) (p:Part),mu ρ s v x n p→(∀b∈(t_ n cs p).2,b.prop ρ)→mu ρ s v (dx ρ s x cs) n (t_ n cs p).1
 | [],_,_,h,_=>h
 | c::r,x,p,h,cu=>by
  simp only [t_]at cu ⊢;obtain⟨h1,h2⟩:=bB cu;exact xW r _ _ (h.step c h1).1 h2
theorem mM{md:Bool}{t s n:Nat}{v:Value}{cs:List Value}{S:Nat→Prop}(h:(aC md t s v n cs).p w S): ∃a c,v= .slice a n c∧n≤c:=by
 obtain⟨h0,_⟩:=h;cases md with
 | true=>
  simp only [if_true]at h0;rcases h0.2 with⟨rfl,rfl⟩ | ⟨g,o,cap,cur,rfl,_,FL,_⟩
  ·exact⟨_,_,rfl,Nat.le_refl _⟩
  ·exact⟨_,_,rfl,FL⟩
 | false=>
  simp only [Bool.false_eq_true,if_false]at h0;obtain⟨_,a,m,c',rfl,rfl,TO,_⟩:=h0;exact⟨_,_,rfl,TO⟩
theorem fh{x:SV}{r:Rt}(h:gJ hp x=some r)(dp:Reads hp ρ w S [r.j])(cu: ∀b∈r.vcs,b.prop ρ):
  hp[r.j]? =some (.cy r.md r.v r.t r.s r.n r.aA)∧mu ρ r.s (ρ.vv.getD r.v V1.nil).v (x.val ρ) r.n r.p:=by
 unfold gJ at h;split at h
 ·rename_i v;split at h
  ·rename_i j md v' t s n aA hf;cases h;obtain⟨hj,ew⟩:=dr hf;simp only [Ck.nP,beq_iff_eq]at ew;subst ew;have hS:=dp j (by simp) _ hj;exact⟨hj,mu.whole (mM hS)⟩
  ·cases h
 ·rename_i v cs s';split at h
  ·rename_i j md v' t s n aA hf;split at h
   ·rename_i hs;subst hs;cases h;obtain⟨hj,ew⟩:=dr hf;simp only [Ck.nP,beq_iff_eq]at ew;subst ew;have hS:=dp j (by simp) _ hj;exact⟨hj,xW cs _ _ (mu.whole (mM hS)) cu⟩
   ·cases h
  ·cases h
 ·cases h
end
def f_:Option Value→Option Int→Prop
 | none,none=>True
 | some v,some i=> ∃k,v= .int k i
 | _,_=>False
section
variable {P:Program} {ρ:Env} {w:World} {look:Nat→Option SV} {bQ:Operand→Value} {hp:List Ck} {S:Nat→Nat→Prop} {nb nv:Nat} {T:List TI}
theorem jv(u6:uZ ρ look bQ){o:Option Operand}{l:Option E}(h:Ag look o=some l):f_ (o.map bQ) (l.map fun e:E=>e.den ρ 0):=by
 unfold Ag at h;split at h
 ·cases h;exact True.intro
 ·split at h
  ·rename_i k e he;cases h;exact⟨k,fg u6 he⟩
  ·cases h
theorem ua(isS:Bool)(N C:Nat){lo hi mx:Option Value}{l h m:Option Int}(hl:f_ lo l)(hh:f_ hi h)(hm:f_ mx m)(hx:m.isSome=true→h.isSome=true)
  (h0:0≤l.getD 0) (h1:l.getD 0≤h.getD (N:Int)) (h2: ∀x,m=some x→h.getD (N:Int)≤x∧x≤C) (h3:m=none→h.getD (N:Int)≤C):
  (ahb isS N C lo hi mx).run P w= .ok ((l.getD 0).toNat,(h.getD (N:Int)).toNat,(m.map ag).getD C) w:=by
 have hb:=fun(k:IntKind) (i:Int) (y:Nat) (code:BoundsCode) (a:0≤i) (b:i≤y)=>run_sliceBound (P:=P) (w:=w) k i y code a b
 cases m with
 | none=>
  have h3:=h3 rfl;cases mx with
  | some v=>exact hm.elim
  | none=>
   cases h with
   | none=>
    cases hi with
    | some v=>exact hh.elim
    | none=>
     cases l with
     | none=>
      cases lo with
      | some v=>exact hl.elim
      | none=>simp [ahb]
     | some l=>
      cases lo with
      | none=>exact hl.elim
      | some v=>
       obtain⟨k,rfl⟩:=hl;simp only [ahe,Option.getD_none]at h0 h1;simp [ahb,hb k l N _ h0 h1]
   | some h=>
    cases hi with
    | none=>exact hh.elim
    | some v=>
     obtain⟨kh,rfl⟩:=hh;simp only [ahe]at h1 h3;have hhn:(h.toNat:Int)=h:=Int.toNat_of_nonneg (by omega);cases l with
     | none=>
      cases lo with
      | some v=>exact hl.elim
      | none=>
       simp only [Option.getD_none]at h1;simp [ahb,hb kh h C _ h1 h3]
     | some l=>
      cases lo with
      | none=>exact hl.elim
      | some v=>
       obtain⟨k,rfl⟩:=hl;simp only [ahe]at h0 h1;simp [ahb,hb kh h C _ (by omega) h3,hb k l h.toNat _ h0 (by omega)]
 | some m=>
  obtain⟨g2,g3⟩:=h2 m rfl;cases mx with
  | none=>exact hm.elim
  | some v=>
   obtain⟨km,rfl⟩:=hm;cases h with
   | none=>simp at hx
   | some h=>
    cases hi with
    | none=>exact hh.elim
    | some v=>
     obtain⟨kh,rfl⟩:=hh;simp only [ahe]at h1 g2;cases l with
     | none=>
      cases lo with
      | some v=>exact hl.elim
      | none=>
       simp only [Option.getD_none]at h1;simp [ahb,hb km m C _ (by omega) g3,hb kh h m.toNat _ (by omega) (by omega)]
     | some l=>
      cases lo with
      | none=>exact hl.elim
      | some v=>
       obtain⟨k,rfl⟩:=hl;simp only [ahe]at h0 h1;simp [ahb,hb km m C _ (by omega) g3,hb kh h m.toNat _ (by omega) (by omega),hb k l h.toNat _ h0 (by omega)]
theorem pT(hT:bC P T=true){t:TypeId}{tt te:TI}(ht:aW T t=some tt){e:Nat}(hk:tt.k= .slice e)(ik:aW T e=some te)
  (a:Option Addr) (N C:Nat) {lo hi mx:Option Value} {l h m:Option Int} (hl:f_ lo l) (hh:f_ hi h) (hm:f_ mx m) (hx:m.isSome=true→h.isSome=true)
  (h0:0≤l.getD 0) (h1:l.getD 0≤h.getD (N:Int)) (h2: ∀x,m=some x→h.getD (N:Int)≤x∧x≤C) (h3:m=none→h.getD (N:Int)≤C):
  (Instr.sliceAt t (.slice a N C) lo hi mx).run P w= .ok (bT te.size (.slice a N C) (l.getD 0).toNat (h.getD (N:Int)).toNat (m.map ag)) w:=by
 obtain⟨rfl,uK⟩:=ay hT ht;obtain⟨rfl,c9⟩:=ay hT ik;have dg:=uK.kind;rw [hk]at dg;have hu:=bR dg;have:=ua (P:=P) (w:=w) true N C hl hh hm hx h0 h1 h2 h3;simp [Instr.sliceAt,Instr.slice,run_underlying hu,this,c9.sizeOf w,bT]
theorem B_(hT:bC P T=true){t:TypeId}{tt te:TI}(ht:aW T t=some tt){n e:Nat}(hk:tt.k= .arr n e)(ik:aW T e=some te)
  (a:Addr) {lo hi mx:Option Value} {l h m:Option Int} (hl:f_ lo l) (hh:f_ hi h) (hm:f_ mx m) (hx:m.isSome=true→h.isSome=true)
  (h0:0≤l.getD 0) (h1:l.getD 0≤h.getD (n:Int)) (h2: ∀x,m=some x→h.getD (n:Int)≤x∧x≤n) (h3:m=none→h.getD (n:Int)≤n):
  (Instr.sliceAt t (.pointer (some a)) lo hi mx).run P w= .ok (bT te.size (.slice (some a) n n) (l.getD 0).toNat (h.getD (n:Int)).toNat (m.map ag)) w:=by
 obtain⟨rfl,uK⟩:=ay hT ht;obtain⟨rfl,c9⟩:=ay hT ik;have dg:=uK.kind;rw [hk]at dg;have hu:=pc dg;have:=ua (P:=P) (w:=w) false n n hl hh hm hx h0 h1 h2 h3;simp only [Instr.sliceAt,agK,run_underlying hu,agG,Instr.sureAddr,ag0,this,c9.sizeOf w,bT];congr 2;split<;>simp
theorem Kl(b i0 n0 m0 s:Nat)(l h:Int)(m:Int)(h0:0≤l)(h1:l≤h)(h2:h≤m)(h3:l=0∨l<m):
  bT s (.slice (some ⟨b,i0*s,none⟩) n0 m0) l.toNat h.toNat (some m.toNat)= .slice (some ⟨b,(i0+l.toNat)*s,none⟩) (h - l).toNat (m - l).toNat:=by
 simp only [bT,ahe];congr 1
 ·rcases h3 with rfl | h3
  ·simp [lv]
  ·rw [if_neg (by omega),Option.map_some,iB,Nat.add_mul]
 ·omega
 ·omega
theorem qY(o:Option E)(d:E):(o.getD d).den ρ 0=(o.map fun e:E=>e.den ρ 0).getD (d.den ρ 0):=by cases o<;>rfl
theorem Et{x v:SV}{c:Cut}{s:Nat}(h:Ah x c s=some v):
  v.val ρ=bT s (x.val ρ) (c.lo.den ρ 0).toNat (c.hi.den ρ 0).toNat (c.mx.map fun m=>(m.den ρ 0).toNat):=by
 unfold Ah at h;split at h
 ·cases h;rfl
 ·split at h
  ·rename_i hs;subst hs;cases h;simp only [SV.val,oV];rfl
  ·cases h
 ·cases h
theorem N6{l mm:E}(h: ∀b∈(if l= .lit 0 then []else [Ie l mm].filter fun b=>b != .lit true),b.prop ρ):l.den ρ 0=0∨l.den ρ 0<mm.den ρ 0:=by
 split at h
 ·rename_i hl;subst hl;exact .inl rfl
 ·exact .inr (yR h)
theorem Ai(hT:bC P T=true){t:TypeId}{tt:TI}(fL:aW T t=some tt){x:SV}{l h m:Option E}{res:iC}(hs:Aj T hp tt.k x l h m=some res)
  {lo hi mx:Option Value} (hl:f_ lo (l.map fun e:E=>e.den ρ 0)) (hh:f_ hi (h.map fun e:E=>e.den ρ 0)) (hm:f_ mx (m.map fun e:E=>e.den ρ 0))
  (dp:Reads hp ρ w S res.rd) (cu: ∀b∈res.vcs,b.prop ρ):
  (Instr.sliceAt t (x.val ρ) lo hi mx).run P w= .ok (res.val.val ρ) w∧res.ij= .none:=by
 unfold Aj at hs;split at hs
 ·cases hs
 ·rename_i XC;have hx:(m.map fun e:E=>e.den ρ 0).isSome=true→(h.map fun e:E=>e.den ρ 0).isSome=true:=by
   cases m<;>cases h<;>simp_all
  split at hs
  ·rename_i e b i s n cap hk;split at hs
   ·rename_i te ik;split at hs
    ·rename_i fx;subst fx;simp only [agy]at hs;subst hs;refine⟨?_,rfl⟩;simp only at cu;obtain⟨cu,q6⟩:=bB cu;obtain⟨cu,q5⟩:=bB cu;obtain⟨cu,q4⟩:=bB cu;obtain⟨cu,q3⟩:=bB cu;obtain⟨cu,q2⟩:=bB cu;obtain⟨q0,q1⟩:=bB cu;have q0:=bg q0;have q1:=bg q1;have q2:=bg q2;have q3:=bg q3;have q4:=bg q4;have q5:=bg q5;have q6:=N6 q6;simp only [qY,E.den]at q0 q1 q2 q3 q4 q5 q6;have e1:(SV.sl b i te.size n cap).val ρ= .slice (some ⟨ρ.bv.getD b 0,(i.den ρ 0).toNat*te.size,none⟩) (n.den ρ 0).toNat (cap.den ρ 0).toNat:=rfl;have ZH:((n.den ρ 0).toNat:Int)=n.den ρ 0:=Int.toNat_of_nonneg q5;have iL:=pT (P:=P) (w:=w) hT fL hk ik (some ⟨ρ.bv.getD b 0,(i.den ρ 0).toNat*te.size,none⟩) (n.den ρ 0).toNat (cap.den ρ 0).toNat hl hh hm hx q1 (by rw [ZH];exact q2)
      (fun x hx=>by rw [hx]at q3 q4;rw [ZH];simp only [ahe]at q3 q4;exact⟨q3,by omega⟩) (fun hx=>by rw [hx]at q3;rw [ZH];simp only [Option.getD_none]at q3;omega)
     rw [e1,iL,ZH];congr 1;have Vc:bT te.size (.slice (some ⟨ρ.bv.getD b 0,(i.den ρ 0).toNat*te.size,none⟩) (n.den ρ 0).toNat (cap.den ρ 0).toNat) ((l.map fun e:E=>e.den ρ 0).getD 0).toNat
       ((h.map fun e:E=>e.den ρ 0).getD (n.den ρ 0)).toNat ((m.map fun e:E=>e.den ρ 0).map ag)=
       bT te.size (.slice (some ⟨ρ.bv.getD b 0,(i.den ρ 0).toNat*te.size,none⟩) (n.den ρ 0).toNat (cap.den ρ 0).toNat) ((l.map fun e:E=>e.den ρ 0).getD 0).toNat
       ((h.map fun e:E=>e.den ρ 0).getD (n.den ρ 0)).toNat (some ((m.map fun e:E=>e.den ρ 0).getD (cap.den ρ 0)).toNat):=by
      cases m<;>rfl
     rw [Vc,Kl _ _ _ _ _ _ _ _ q1 q2 q3 q6];simp only [SV.val,bN,e8,qY,E.den];congr 4;omega
    ·cases hs
   ·cases hs
  ·rename_i e hk;split at hs
   ·rename_i te ik;split at hs
    ·rename_i hz;cases hs;obtain⟨z1,z2,z3⟩:=hz;refine⟨?_,rfl⟩;have g1:(l.map fun e:E=>e.den ρ 0).getD 0=0:=by cases l with | none=>rfl | some l=>simp only [ahe]at z1;subst z1;rfl
     have g2:(h.map fun e:E=>e.den ρ 0).getD 0=0:=by cases h with | none=>rfl | some l=>simp only [ahe]at z2;subst z2;rfl
     have g3:(m.map fun e:E=>e.den ρ 0).getD 0=0:=by cases m with | none=>rfl | some l=>simp only [ahe]at z3;subst z3;rfl
     have iL:=pT (P:=P) (w:=w) hT fL hk ik none 0 0 hl hh hm hx (by rw [g1];exact Int.le_refl _) (by rw [g1];simp only [Int.natCast_zero,g2];exact Int.le_refl _)
      (fun x hx=>by rw [hx]at g3;simp only [ahe]at g3;subst g3;simp only [Int.natCast_zero,g2];exact⟨Int.le_refl _,Int.le_refl _⟩) (fun _=>by simp only [Int.natCast_zero,g2];exact Int.le_refl _)
     rw [show(SV.bY).val ρ= .slice none 0 0 from rfl,iL];congr 1;simp only [g1,Int.natCast_zero,g2];cases m with
     | none=>simp [bT]
     | some m=>simp only [Option.map_some,ahe]at g3;simp [bT,g3]
    ·cases hs
   ·cases hs
  ·rename_i e hk _ _;split at hs
   ·rename_i te r ik hr;split at hs
    ·rename_i fx;dsimp only at hs;split at hs
     ·rename_i v hv;cases hs;refine⟨?_,rfl⟩;simp only at cu;obtain⟨xV,HY⟩:=bB cu;obtain⟨hj,eu⟩:=fh hr dp xV;obtain⟨h1,h2,h3,h4,a,N,C,Iu,hN,hC,hCm⟩:=eu.step _ HY;rw [Et hv,Iu];simp only [qY,E.den]at h2 h3 h4 hC ⊢;have WX:(h.map fun e:E=>e.den ρ 0).getD (r.p.len.den ρ 0)=(h.map fun e:E=>e.den ρ 0).getD (N:Int)∨(h=none∧r.p.len.den ρ 0≤N):=by
       cases h with
       | none=>right;exact⟨rfl,by omega⟩
       | some h=>left;rfl
      have WX:(h.map fun e:E=>e.den ρ 0).getD (N:Int)=(h.map fun e:E=>e.den ρ 0).getD (r.p.len.den ρ 0):=by
       rcases WX with h | ⟨rfl,hle⟩
       ·exact h.symm
       ·simp only [Option.map_none,Option.getD_none]at h3 ⊢;omega
      have iL:=pT (P:=P) (w:=w) hT fL hk ik a N C hl hh hm hx h2 (by rw [WX];exact h3)
       (fun x hx=>by
        rw [WX];rw [agz]at hx;obtain⟨me,Ca,rfl⟩:=hx;have:=h4 me Ca;have:=hCm me Ca;exact⟨h4 me Ca,by omega⟩)
       (fun hx=>by
        rw [WX];have:=hC (by simpa using hx);omega)
      rw [iL,WX,fx];congr 2;cases m<;>rfl
     ·cases hs
    ·cases hs
   ·cases hs
  ·rename_i n e b c hk;split at hs
   ·rename_i te ik;split at hs
    ·rename_i fx;obtain⟨fx,aax⟩:=fx;simp only [agy]at hs;subst hs;refine⟨?_,rfl⟩;simp only at cu;obtain⟨cu,q6⟩:=bB cu;obtain⟨cu,q4⟩:=bB cu;obtain⟨cu,q3⟩:=bB cu;obtain⟨q1,q2⟩:=bB cu;have q1:=bg q1;have q2:=bg q2;have q3:=bg q3;have q4:=bg q4;have q6:=N6 q6;simp only [qY,E.den]at q1 q2 q3 q4 q6;have hc:c=c/te.size*te.size:=by
      have:=Nat.div_add_mod c te.size;rw [aax,Nat.add_zero,Nat.mul_comm]at this;exact this.symm
     have e1:(SV.ptr b c).val ρ= .pointer (some ⟨ρ.bv.getD b 0,c/te.size*te.size,none⟩):=by
      rw [←hc];rfl
     have iL:=B_ (P:=P) (w:=w) hT fL hk ik ⟨ρ.bv.getD b 0,c/te.size*te.size,none⟩ hl hh hm hx q1 q2
      (fun x hx=>by rw [hx]at q3 q4;simp only [ahe]at q3 q4;exact⟨q3,q4⟩) (fun hx=>by rw [hx]at q3;simp only [Option.getD_none]at q3;exact q3)
     rw [e1,iL];congr 1;have Vc:bT te.size (.slice (some ⟨ρ.bv.getD b 0,c/te.size*te.size,none⟩) n n) ((l.map fun e:E=>e.den ρ 0).getD 0).toNat
       ((h.map fun e:E=>e.den ρ 0).getD (n:Int)).toNat ((m.map fun e:E=>e.den ρ 0).map ag)=
       bT te.size (.slice (some ⟨ρ.bv.getD b 0,c/te.size*te.size,none⟩) n n) ((l.map fun e:E=>e.den ρ 0).getD 0).toNat
       ((h.map fun e:E=>e.den ρ 0).getD (n:Int)).toNat (some ((m.map fun e:E=>e.den ρ 0).getD (n:Int)).toNat):=by
      cases m<;>simp [bT]
     rw [Vc,Kl _ _ _ _ _ _ _ _ q1 q2 q3 q6];simp only [SV.val,bN,e8,qY,E.den];congr 4;generalize c/te.size=q;omega
    ·cases hs
   ·cases hs
  ·cases hs
end
end Go.RX
