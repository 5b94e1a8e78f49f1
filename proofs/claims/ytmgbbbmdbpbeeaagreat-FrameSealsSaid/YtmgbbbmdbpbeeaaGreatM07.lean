/- Executor. -/
import Derived.Test.YtmgbbbmdbpbeeaaGreatM06
open Go.Builtin renaming append_ → afh
open Go.Instr renaming sliceBounds → afD
open Go.Result renaming andThen_ok → ae3
open Go.Sem renaming run_bind → afa, run_pure → afs
open Int renaming toNat → ag
open List renaming eq_nil_of_length_eq_zero → aff, mem_filter → afk, mem_range → afg
open Option renaming getD_some → afG, map_eq_some_iff → aeY
open Option.some renaming injEq → aeX
open Prod.mk renaming injEq → afB
namespace Go.RX
section
variable {P:Program} {ρ:Env} {w:World} {look:Nat→Option SV} {vals:Operand→Value} {hp:List Ck} {S:Nat→Nat→Prop} {nb nv:Nat} {T:List TI}
theorem cy{i:E}{n:Nat}(h:fe i=some n):i.den ρ 0=n:=by
 unfold fe at h;split at h
 ·cases h;rfl
 ·cases h
theorem tO(b:Nat)(i:E)(s c:Nat):(DP b i s c).val ρ= .pointer (some ⟨ρ.bv.getD b 0,(i.den ρ 0).toNat*s+c,none⟩):=by
 unfold DP;split
 ·rename_i n hn;simp [SV.val,cy hn]
 ·rfl
theorem ss(hT:bG P T=true){s:TypeId}{ts ti:TI}(hs:a_ T s=some ts){fs:List (Nat×Nat)}(hk:ts.k= .struct fs){f t off:Nat}
  (hf:fs[f]? =some (t,off)) (ht:a_ T t=some ti) (fx: ¬ti.size=0) (a:Addr):
  (Instr.fieldAt s (.pointer (some a)) f).run P w= .ok (.pointer (some (a.add off))) w:=by
 obtain⟨rfl,tz⟩:=aH hT hs;obtain⟨rfl,cQ⟩:=aH hT ht;have cX:=tz.kind;rw [hk]at cX;obtain⟨fa,hu,PZ⟩:=lR cX;subst PZ;rw [List.getElem?_map,aeY]at hf;obtain⟨fd,RP,he⟩:=hf;rw [Array.getElem?_toList]at RP;simp only [afB]at he;have h1:(Go.sizeOf fd.type).run P w= .ok ti.size w:=by rw [he.1];exact cQ.sizeOf w
 simp [Instr.fieldAt,run_underlying hu,RP,Instr.sureAddr,fieldPlace,h1,fx,he.2]
theorem vP(hT:bG P T=true){s:TypeId}{ts ti:TI}(hs:a_ T s=some ts){fs:List (Nat×Nat)}(hk:ts.k= .struct fs){f t off:Nat}
  (hf:fs[f]? =some (t,off)) (ht:a_ T t=some ti) {cs x:List SV} {v:SV} (hx:i_ off ti.size cs=some x) (hv:iz ti.k.agg x=some v):
  (Instr.field s (.agg (SV.aC ρ cs).toArray) f).run P w= .ok (v.val ρ) w:=by
 obtain⟨rfl,tz⟩:=aH hT hs;obtain⟨rfl,cQ⟩:=aH hT ht;have cX:=tz.kind;rw [hk]at cX;obtain⟨fa,hu,PZ⟩:=lR cX;subst PZ;rw [List.getElem?_map,aeY]at hf;obtain⟨fd,RP,he⟩:=hf;rw [Array.getElem?_toList]at RP;simp only [afB]at he;have h1:=xE (ρ:=ρ) (w:=w) cQ hx hv;rw [←he.1,←he.2]at h1;simp [Instr.field,run_underlying hu,RP,asAgg,h1]
theorem po(hT:bG P T=true){t:TypeId}{tt te:TI}(ht:a_ T t=some tt){e:Nat}(hk:tt.k= .slice e)(gX:a_ T e=some te)
  (a:Addr) (n c:Nat) (k:IntKind) (j:Int) (h0:0≤j) (h1:j<n):
  (Instr.indexAt t (.slice (some a) n c) (.int k j)).run P w= .ok (.pointer (some (a.add (j.toNat*te.size)))) w:=by
 obtain⟨rfl,tz⟩:=aH hT ht;obtain⟨rfl,cQ⟩:=aH hT gX;have cX:=tz.kind;rw [hk]at cX;have hu:=bO cX;simp [Instr.indexAt,run_underlying hu,asIntOf,h0,h1,cQ.sizeOf w]
theorem xF(hT:bG P T=true){t:TypeId}{tt te:TI}(ht:a_ T t=some tt){n e:Nat}(hk:tt.k= .arr n e)(gX:a_ T e=some te)
  (a:Addr) (k:IntKind) (j:Int) (h0:0≤j) (h1:j<n):
  (Instr.indexAt t (.pointer (some a)) (.int k j)).run P w= .ok (.pointer (some (a.add (j.toNat*te.size)))) w:=by
 obtain⟨rfl,tz⟩:=aH hT ht;obtain⟨rfl,cQ⟩:=aH hT gX;have cX:=tz.kind;rw [hk]at cX;have hu:=m_ cX;simp [Instr.indexAt,run_underlying hu,asIntOf,Instr.sureAddr,h0,h1,cQ.sizeOf w]
theorem sv(hT:bG P T=true){t:TypeId}{tt te:TI}(ht:a_ T t=some tt){n e:Nat}(hk:tt.k= .arr n e)(gX:a_ T e=some te)
  (cs:Array Value) (k:IntKind) (j:Int) (h0:0≤j) (h1:j<n) {v:Value} (hp:(part te.t cs (j.toNat*te.size)).run P w= .ok v w):
  (Instr.index t (.agg cs) (.int k j)).run P w= .ok v w:=by
 obtain⟨rfl,tz⟩:=aH hT ht;obtain⟨rfl,cQ⟩:=aH hT gX;have cX:=tz.kind;rw [hk]at cX;have hu:=m_ cX;simp [Instr.index,run_underlying hu,asIntOf,h0,h1,cQ.sizeOf w,hp]
theorem nR(hT:bG P T=true){t:TypeId}{tt:TI}(ht:a_ T t=some tt){e:Nat}(hk:tt.k= .slice e)(a:Option Addr)(n c:Nat)(ty:TypeId):
  (Builtin.len_ #[t] ty #[.slice a n c]).run P w= .ok (goInt n) w:=by
 obtain⟨rfl,tz⟩:=aH hT ht;have cX:=tz.kind;rw [hk]at cX;have hu:=bO cX;simp [Builtin.len_,run_underlying hu]
theorem xG(hT:bG P T=true){t:TypeId}{tt:TI}(ht:a_ T t=some tt)(hk:tt.k= .str)(s:ByteArray)(ty:TypeId):
  (Builtin.len_ #[t] ty #[.string s]).run P w= .ok (goInt s.size) w:=by
 obtain⟨rfl,tz⟩:=aH hT ht;have cX:=tz.kind;rw [hk]at cX;have hu:P.underlying tt.t=some .string:=by
  unfold hJ at cX;split at cX<;>simp_all
 simp [Builtin.len_,run_underlying hu]
theorem DQ(aF:List bV)(n:Nat):aM ρ (n+1) aF=aM ρ n aF++rowAt ρ aF n:=by
 unfold aM aQ rowAt;rw [List.range_succ,List.flatMap_append];simp
theorem JT(c1 c2:List bV)(n:Nat)(h: ∀i,i<n→rowAt ρ c1 i=rowAt ρ c2 i):aM ρ n c1=aM ρ n c2:=by
 unfold aM aQ;unfold rowAt at h;rw [List.flatMap_def,List.flatMap_def];congr 1;exact List.map_congr_left fun i hi=>h i (afg.1 hi)
theorem oz(t ty e:TypeId)(i:TypeInfo)(z:Value)(size bytes:Nat)(ht:P.underlying t=some (.slice e))(hi:P.info? e=some i)(hz:i.zero=some z)
  (iW:i.size=size) (tA:i.bytes=bytes) (oM:z.cells.size=size)
  (b:Addr) (n:Nat) (xs:List Value) (F3:xs.length=n*size) (holds: ∀j u,xs[j]? =some u→w.cell? (b.add j)=some u)
  (a:Addr) (m c:Nat) (hm:0<m) (news:List Value) (hl:news.length=m*size) (DR: ∀j u,news[j]? =some u→w.cell? (a.add j)=some u)
  (OT:n+m≤maxLen) (nS:(n+m)*bytes≤140737488355328):
  ∃v' w',(afh #[t,t] ty #[.slice (some b) n n,.slice (some a) m c]).run P w= .ok v' w'∧w'.g_ e size v' (n+m) (xs++news)∧w.grownBy w' none∧v'.ownBlock=some w.heap.size:=by
 subst iW;subst tA;have hlen:(xs++news).length=(n+m)*i.size:=by rw [List.length_append,F3,hl,Nat.add_mul]
 have iH:=grownCap_ge w (n+m) n e;have Ml:grownCap w (n+m) n e≤maxLen:=grownCap_le_maxLen w (n+m) n e OT;have hr:=run_append_grow (P:=P) w t ty e i z ht hi hz b n n xs F3 holds a m c news hl DR (by omega) (by simp only [maxLen]at OT;omega) (growslice_fits (by omega) nS);refine⟨_,_,hr,⟨hlen,.inr ⟨w.heap.size,0,_,_,rfl,⟨e,heap_alloc_new w.drew _⟩,iH,Ml,?_,?_⟩⟩,⟨rfl,rfl,rfl,by simp,fun k hk _=>heap_alloc_old w.drew _ hk⟩,rfl⟩
 ·simp only [Array.size_append,List.size_toArray,size_zeroCells,oM,F3,hl,←Nat.add_mul,Nat.zero_add];intro _;apply Nat.le_of_eq;congr 1;omega
 ·simp only [Array.toList_append,List.drop_zero]
  first
   | (rw [←hlen];exact List.take_left)
   | (rw [List.append_assoc,←List.append_assoc,←hlen];exact List.take_left)
theorem mv(t ty e:TypeId)(i:TypeInfo)(z:Value)(size bytes:Nat)(ht:P.underlying t=some (.slice e))(hi:P.info? e=some i)(hz:i.zero=some z)
  (iW:i.size=size) (tA:i.bytes=bytes) (oM:z.cells.size=size) (fx:0<size)
  (v:Value) (n:Nat) (xs:List Value) (cM:w.g_ e size v n xs)
  (a:Addr) (m c:Nat) (news:List Value) (hl:news.length=m*size) (DR: ∀j u,news[j]? =some u→w.cell? (a.add j)=some u) (h1: ∀u∈news,u.oneCell'=true)
  (OT:n+m≤maxLen) (nS:(n+m)*bytes≤140737488355328):
  ∃v' w',(afh #[t,t] ty #[v,.slice (some a) m c]).run P w= .ok v' w'∧w'.g_ e size v' (n+m) (xs++news)∧w.grownBy w' v.ownBlock∧
   (v'.ownBlock=v.ownBlock∨v'.ownBlock=some w.heap.size):=by
 rcases cM.2 with⟨rfl,rfl⟩ | ⟨g,o,cap,cur,rfl,⟨t',hg⟩,CI,OP,mj,CJ⟩
 ·have hx:xs=[]:=aff (by simpa using cM.1);subst hx;obtain⟨v',w',r1,r2,r3,_,r5⟩:=run_append_own_at (P:=P) w 0 t ty e i z size bytes ht hi hz iW tA oM fx (.slice none 0 0) 0 [] (World.ownsRow_nil w 0 e size) a m c news hl DR h1 OT nS (Nat.zero_le _);exact⟨v',w',r1,JA r2,r3,r5⟩
 ·subst iW;subst tA;have hlen:(xs++news).length=(n+m)*i.size:=by rw [List.length_append,cM.1,hl,Nat.add_mul]
  by_cases pq:n+m≤cap
  ·by_cases JU:m=0
   ·subst JU;have:news=[]:=aff (by simpa using hl);subst this;refine⟨_,w,?_,by simpa using cM,⟨rfl,rfl,rfl,Nat.le_refl _,fun _ _ _=>rfl⟩,.inl rfl⟩;simp [afh,run_underlying ht,sizeOf,typeInfo,hi,Builtin.lenOf,Builtin.firstCells,CI,storeCells,loadCells,loadCellsFrom]
   have mj:=mj (by omega);have hmul:(n+m)*i.size≤cap*i.size:=Nat.mul_le_mul_right _ pq;rw [Nat.add_mul]at hmul;have tP:o+n*i.size+news.length≤cur.size:=by omega
   have hfc:=run_firstCells_some (P:=P) w i.size m a m c news hl DR;have uE:=run_storeCells_at (P:=P) g (o+n*i.size) t' news 0 cur w hg (by simpa using tP) h1;simp only [Nat.add_zero]at uE;have hr:(afh #[t,t] ty #[.slice (some ⟨g,o,none⟩) n cap,.slice (some a) m c]).run P w= .ok (.slice (some ⟨g,o,none⟩) (n+m) cap) (w.setRow g (cur.toList.take (o+n*i.size)++news++cur.toList.drop (o+n*i.size+news.length)).toArray):=by
    simp [afh,run_underlying ht,sizeOf,typeInfo,hi,Builtin.lenOf,pq,hfc,eI,uE]
   refine⟨_,_,hr,⟨hlen,.inr ⟨g,o,cap,_,rfl,⟨t',setRow_heap w g cur _ t' _ hg⟩,pq,OP,?_,?_⟩⟩,⟨rfl,rfl,rfl,by simp,fun k _ hk=>setRow_other w g k _ (fun e=>hk (by simp [Value.ownBlock,e]))⟩,Or.inl rfl⟩
   ·simp only [List.size_toArray,List.length_append,List.length_take,List.length_drop,Array.length_toList];intro _;omega
   ·have:=pe cur.toList news o (n*i.size) ((n+m)*i.size) (by rw [Nat.add_mul];omega) (by rw [Nat.add_mul];simp;omega);simp only;rw [this,List.take_take,Nat.min_eq_left (by rw [Nat.add_mul];omega),CJ,hl,←Nat.add_mul,List.drop_eq_nil_of_le (by rw [List.length_take];exact Nat.min_le_left _ _),List.append_nil]
  ·have iH:=grownCap_ge w (n+m) cap e;have Ml:grownCap w (n+m) cap e≤maxLen:=grownCap_le_maxLen w (n+m) cap e OT;have hr:=run_append_grow (P:=P) w t ty e i z ht hi hz ⟨g,o,none⟩ n cap xs cM.1 (iX cM) a m c news hl DR (by omega) (by simp only [maxLen]at OT;omega) (growslice_fits (by omega) nS);refine⟨_,_,hr,⟨hlen,.inr ⟨w.heap.size,0,_,_,rfl,⟨e,heap_alloc_new w.drew _⟩,iH,Ml,?_,?_⟩⟩,⟨rfl,rfl,rfl,by simp,fun k hk _=>heap_alloc_old w.drew _ hk⟩,Or.inr rfl⟩
   ·simp only [Array.size_append,List.size_toArray,size_zeroCells,oM,cM.1,hl,←Nat.add_mul,Nat.zero_add];intro _;apply Nat.le_of_eq;congr 1;omega
   ·simp only [Array.toList_append,List.drop_zero]
    first
     | (rw [←hlen];exact List.take_left)
     | (rw [List.append_assoc,←List.append_assoc,←hlen];exact List.take_left)
theorem Bp(hT:bG P T=true)(j9:ρ.Ok){ts:TypeId}{tt te:TI}(ht:a_ T ts=some tt){e:Nat}(hk:tt.k= .slice e)(gX:a_ T e=some te){s:Nat}(hs:te.size=s)(DS:0<s)
  {v j j' b cap:Nat} {n:E} {aF aZ:List bV} {cs:List SV} {wr:Bool} (hj:hp[j]? =some (.bC true v e s n aF)) (hS:((Ck.bC true v e s n aF).den ρ).p w (S j))
  (_:hp[j']? =some (.row b wr cs)) (Mm:((Ck.row b wr cs).den ρ).p w (S j')) (hw:s=bW aF) (hlen:jy cs=s) (iR:cs.all SV.one=true) (pg:kC n cs aF=some aZ)
  (h0:0≤n.den ρ 0) (F9:(n.den ρ 0+1)*(max 1 te.bytes:Nat)≤140737488355328) (ty:TypeId):
  Did P ρ w hp S nb nv ((do pure (.value (←afh #[ts,ts] ty #[(SV.vv v).val ρ,.slice (some ⟨ρ.bv.getD b 0,0,none⟩) 1 cap])):Sem Next).run P w)
   {val:= .vv nv,hO:= .app j (.bC true nv e s (dB n (.lit 1)) aZ)}:=by
 obtain⟨rfl,fq⟩:=aH hT ht;obtain⟨rfl,cQ⟩:=aH hT gX;have cX:=fq.kind;rw [hk]at cX;have hu:=bO cX;obtain⟨i,hi,fx,tA,z,hz,hc⟩:=cQ.info;have oM:z.cells.size=te.size:=by rw [←Array.length_toList,←hc ρ,bB,cQ.ze]
 obtain⟨cM,kp⟩:=hS;simp only [if_true]at cM;have aaz:((n.den ρ 0).toNat+1)*(max 1 te.bytes)≤140737488355328:=by
  have:(((n.den ρ 0).toNat+1:Nat):Int)=n.den ρ 0+1:=by omega
  rw [←this]at F9;have h2:((((n.den ρ 0).toNat+1)*(max 1 te.bytes):Nat):Int)≤((140737488355328:Nat):Int):=by rw [Int.natCast_mul];exact F9
  exact Int.ofNat_le.1 h2
 have wm:((n.den ρ 0).toNat+1)*1≤((n.den ρ 0).toNat+1)*max 1 te.bytes:=Nat.mul_le_mul_left _ (Nat.le_max_left _ _);have y4:((n.den ρ 0).toNat+1)*te.bytes≤((n.den ρ 0).toNat+1)*max 1 te.bytes:=Nat.mul_le_mul_left _ (Nat.le_max_right _ _);obtain⟨v',w',hr,how,hg,K_⟩:=mv (P:=P) (w:=w) tt.t ty te.t i z s te.bytes hu hi hz (by rw [fx,hs]) tA (by rw [oM,hs]) DS
  _ _ _ cM ⟨ρ.bv.getD b 0,0,none⟩ 1 cap (SV.aC ρ cs) (by rw [bB,Nat.one_mul];exact hlen)
  (fun k u hk=>iC Mm 0 k u hk) (lf ρ iR j9) (Nat.le_trans (show(n.den ρ 0).toNat+1≤140737488355328 by omega) (by unfold maxLen;omega)) (by omega)
 have ft:aM ρ ((dB n (.lit 1)).den ρ 0).toNat aZ=aM ρ (n.den ρ 0).toNat aF++SV.aC ρ cs:=by
  have e1:((dB n (.lit 1)).den ρ 0).toNat=(n.den ρ 0).toNat+1:=by
   rw [bM];simp only [E.den];omega
  obtain⟨p1,p2,p3,p4⟩:=jb ρ pg;rw [e1,DQ,p4,JT aZ aF _ (fun k hk=>p3 k (by omega))];congr 1;rw [List.drop_eq_nil_of_le,List.append_nil];rw [show(rowAt ρ aF (n.den ρ 0).toNat).length=bW aF from dh ρ aF _,bB,←hw];exact Nat.le_of_eq hlen.symm
 refine⟨te.t,s,_,aZ,v',w',fun k=>v'.ownBlock=some k,rfl,rfl,by simp only [SV.val,afa,hr,ae3,afs],?_,⟨_,hj,rfl⟩,?_,?_,⟨?_,fun k=>⟨fun h=>⟨h,.inl rfl⟩,fun h=>h.1⟩⟩,?_⟩
 ·rcases how.2 with⟨rfl,_⟩ | ⟨g,o,cap,cur,rfl,_⟩<;>rfl
 ·exact⟨hg.os,hg.tape,hg.output,hg.size⟩
 ·intro k hk hn;refine hg.block k hk fun he=>hn ((kp k).2 ⟨he.symm,.inl rfl⟩)
 ·simp only [if_true];have e1:((dB n (.lit 1)).den ρ 0).toNat=(n.den ρ 0).toNat+1:=by
   rw [bM];simp only [E.den];omega
  rw [ft,e1];exact how
 ·intro k hk;rcases K_ with h | h
  ·left;rw [kp k,←h];exact⟨hk,.inl rfl⟩
  ·right;rw [hk]at h;cases h;exact⟨Nat.le_refl _,gJ how hk⟩
theorem tQ(hT:bG P T=true)(j9:ρ.Ok){ts:TypeId}{tt te:TI}(ht:a_ T ts=some tt){e:Nat}(hk:tt.k= .slice e)(gX:a_ T e=some te){s:Nat}(hs:te.size=s)(DS:0<s)
  {j' b cap:Nat} {aF aZ:List bV} {cs:List SV} {wr:Bool}
  (Mm:((Ck.row b wr cs).den ρ).p w (S j')) (hw:s=bW aF) (hlen:jy cs=s) (iR:cs.all SV.one=true) (pg:kC (.lit 0) cs aF=some aZ)
  (F9:te.bytes≤140737488355328) (ty:TypeId):
  Did P ρ w hp S nb nv ((do pure (.value (←afh #[ts,ts] ty #[SV.b_.val ρ,.slice (some ⟨ρ.bv.getD b 0,0,none⟩) 1 cap])):Sem Next).run P w)
   {val:= .vv nv,hO:= .own (.bC true nv e s (.lit 1) aZ)}:=by
 obtain⟨rfl,fq⟩:=aH hT ht;obtain⟨rfl,cQ⟩:=aH hT gX;have cX:=fq.kind;rw [hk]at cX;have hu:=bO cX;obtain⟨i,hi,fx,tA,z,hz,hc⟩:=cQ.info;have oM:z.cells.size=te.size:=by rw [←Array.length_toList,←hc ρ,bB,cQ.ze]
 obtain⟨v',w',hr,how,hg,K_⟩:=mv (P:=P) (w:=w) tt.t ty te.t i z s te.bytes hu hi hz (by rw [fx,hs]) tA (by rw [oM,hs]) DS
  (.slice none 0 0) 0 [] (js w te.t s) ⟨ρ.bv.getD b 0,0,none⟩ 1 cap (SV.aC ρ cs) (by rw [bB,Nat.one_mul];exact hlen)
  (fun k u hk=>iC Mm 0 k u hk) (lf ρ iR j9) (by unfold maxLen;omega) (by omega)
 have ft:aM ρ 1 aZ=SV.aC ρ cs:=by
  obtain⟨p1,p2,p3,p4⟩:=jb ρ pg;have e0:aM ρ 1 aZ=aM ρ 0 aZ++rowAt ρ aZ 0:=DQ aZ 0;rw [e0];simp only [E.den,Int.toNat_zero]at p4;rw [p4,List.drop_eq_nil_of_le,List.append_nil]
  ·simp [aM,aQ]
  ·rw [show(rowAt ρ aF 0).length=bW aF from dh ρ aF _,bB,←hw];exact Nat.le_of_eq hlen.symm
 refine⟨te.t,s,_,aZ,v',w',fun k=>v'.ownBlock=some k,rfl,rfl,by simp only [SV.val,afa,hr,ae3,afs],?_,⟨hg.os,hg.tape,hg.output,hg.size⟩,fun k hk=>hg.block k hk (by simp [Value.ownBlock]),⟨?_,fun k=>⟨fun h=>⟨h,.inl rfl⟩,fun h=>h.1⟩⟩,?_⟩
 ·rcases how.2 with⟨rfl,_⟩ | ⟨g,o,cap,cur,rfl,_⟩<;>rfl
 ·simp only [if_true];have e1:((E.lit 1).den ρ 0).toNat=1:=rfl;rw [e1,ft];simpa using how
 ·intro k hk;rcases K_ with h | h
  ·rw [hk]at h;cases h
  ·rw [hk]at h;cases h;exact⟨Nat.le_refl _,gJ how hk⟩
end
section
variable {P:Program} {ρ:Env} {w:World} {look:Nat→Option SV} {vals:Operand→Value} {hp:List Ck} {S:Nat→Nat→Prop} {nb nv:Nat} {T:List TI}
theorem bq{a b:E}(h: ∀c∈dJ a b,c.prop ρ):a.den ρ 0≤b.den ρ 0:=by
 unfold dJ at h;split at h
 ·rename_i he;subst he;exact Int.le_refl _
 ·have key:(wq a b).den ρ=true:=by
   by_cases hl:wq a b= .lit true
   ·rw [hl];rfl
   ·exact(BE.cc ρ _).2 (h _ (afk.2 ⟨by simp,by simpa using hl⟩))
  rw [gK]at key;exact of_decide_eq_true key
theorem vQ{a b:E}(h: ∀c∈[F2 a b].filter fun b=>b != .lit true,c.prop ρ):a.den ρ 0<b.den ρ 0:=by
 have key:(F2 a b).den ρ=true:=by
  by_cases hl:F2 a b= .lit true
  ·rw [hl];rfl
  ·exact(BE.cc ρ _).2 (h _ (afk.2 ⟨by simp,by simpa using hl⟩))
 rw [si]at key;exact of_decide_eq_true key
theorem bD{α:Type}{q:α→Prop}{a b:List α}(h: ∀c∈a++b,q c):(∀c∈a,q c)∧∀c∈b,q c:=
 ⟨fun c hc=>h c (List.mem_append_left _ hc),fun c hc=>h c (List.mem_append_right _ hc)⟩
theorem jJ(a:Addr):a.add 0=a:=by simp [Addr.add]
theorem Bq(a:Option Addr):a.map (·.add 0)=a:=by cases a<;>simp [jJ]
structure Vt (s:Nat) (v x:Value) (n L N:Int) (mx:Option Int):Prop where
 lo:0≤L
 hi:L+N≤n
 top: ∀m,mx=some m→L+N≤m∧m≤n
 is: ∃a c k,v= .slice a n.toNat c∧n.toNat≤c∧x= .slice (a.map (·.add k)) N.toNat ((mx.map ag).getD c - L.toNat)∧(L.toNat<(mx.map ag).getD c∨L=0→k=L.toNat*s)
abbrev Part.den(ρ:Env)(p:Part):Int×Int×Option Int:=(p.lo.den ρ 0,p.len.den ρ 0,p.mx.map fun m=>m.den ρ 0)
def lp(ρ:Env)(s:Nat)(v x:Value)(n:E)(p:Part):Prop:=Vt s v x (n.den ρ 0) (p.lo.den ρ 0) (p.len.den ρ 0) (p.mx.map fun m=>m.den ρ 0)
theorem lp.whole{s:Nat}{v:Value}{n:E}(h: ∃a c,v= .slice a (n.den ρ 0).toNat c∧(n.den ρ 0).toNat≤c):lp ρ s v v n ⟨.lit 0,n,none⟩:=by
 obtain⟨a,c,hv,hc⟩:=h;refine⟨by simp [E.den],by simp [E.den],by simp,a,c,0,hv,hc,?_,?_⟩
 ·rw [Bq];simpa [E.den] using hv
 ·simp [E.den]
theorem lp.step{s:Nat}{v x:Value}{n:E}{p:Part}(h:lp ρ s v x n p)(c:Cut)(bY: ∀b∈(lS n p c).2,b.prop ρ):
  lp ρ s v (aD s x (c.lo.den ρ 0).toNat (c.hi.den ρ 0).toNat (c.mx.map fun m=>(m.den ρ 0).toNat)) n (lS n p c).1∧
  0≤c.lo.den ρ 0∧c.lo.den ρ 0≤c.hi.den ρ 0∧(∀m,c.mx=some m→c.hi.den ρ 0≤m.den ρ 0)∧
  ∃a N C,x= .slice a N C∧N=(p.len.den ρ 0).toNat∧(c.mx=none→(c.hi.den ρ 0).toNat≤C)∧∀m,c.mx=some m→(m.den ρ 0).toNat≤C:=by
 obtain⟨lo,hi,mx⟩:=c;obtain⟨pl,pn,pm⟩:=p;obtain⟨h1,h2,h3,a,c,k,rfl,hc,rfl,hk⟩:=h;simp only [lS]at bY ⊢;obtain⟨uU,FB⟩:=bD bY;obtain⟨XD,uU⟩:=bD uU;have e0:=bq XD;have e1:=bq uU;simp only [E.den]at e0;simp only at h1 h2 h3 hk;generalize hL:pl.den ρ 0=L at*;generalize hN:pn.den ρ 0=N at*;generalize hn:n.den ρ 0=nn at*;generalize hl:lo.den ρ 0=l at*;generalize hh:hi.den ρ 0=hd at*;cases mx with
 | none=>
  cases pm with
  | none=>
   simp only []at FB;have e2:=bq FB;rw [bM,hL,hh,hn]at e2;simp only [Option.map_none,Option.getD_none]at hk ⊢;refine⟨⟨by simp only [bM,hL,hl];omega,by simp only [bM,eJ,hL,hl,hh,hn];omega,by simp,a,c,k+if c - L.toNat=l.toNat then 0 else l.toNat*s,by rw [hn],by rw [hn];exact hc,?_,?_⟩,e0,e1,by simp,_,_,_,rfl,rfl,fun _=>by omega,by simp⟩
   ·simp only [aD,Option.map_none,Option.getD_none,bM,eJ,hL,hl,hh];congr 1
    ·split
     ·simp
     ·cases a<;>simp [dq]
    ·omega
    ·omega
   ·simp only [bM,hL,hl];intro nD;rcases nD with nD | nD
    ·simp only [Option.map_none,Option.getD_none]at nD;rw [if_neg (by omega),hk (.inl (by omega)),←Nat.add_mul];congr 1;omega
    ·have HU:l=0:=by omega
     have Vu:L=0:=by omega
     subst HU Vu;rw [hk (.inr rfl)];simp
  | some m0=>
   simp only []at FB;have e2:=bq FB;rw [bM,hL,hh]at e2;simp only [Option.map_some,afG]at hk h3 ⊢;have h3':=h3 _ rfl;generalize hm:m0.den ρ 0=m at*;refine⟨⟨by simp only [bM,hL,hl];omega,by simp only [bM,eJ,hL,hl,hh,hn];omega,?_,a,c,k+if m.toNat - L.toNat=l.toNat then 0 else l.toNat*s,by rw [hn],by rw [hn];exact hc,?_,?_⟩,e0,e1,by simp,_,_,_,rfl,rfl,fun _=>by omega,by simp⟩
   ·simp only [Option.map_some,bM,eJ,hL,hl,hh,hn,hm,aeX];rintro _ rfl;omega
   ·simp only [aD,Option.map_none,Option.getD_none,afG,Option.map_some,bM,eJ,hL,hl,hh,hm];congr 1
    ·split
     ·simp
     ·cases a<;>simp [dq]
    ·omega
    ·omega
   ·simp only [bM,hL,hl,Option.map_some,afG,hm];intro nD;rcases nD with nD | nD
    ·rw [if_neg (by omega),hk (.inl (by omega)),←Nat.add_mul];congr 1;omega
    ·have HU:l=0:=by omega
     have Vu:L=0:=by omega
     subst HU Vu;rw [hk (.inr rfl)];simp
 | some mq=>
  have e3:(hd≤mq.den ρ 0)∧L+mq.den ρ 0≤nn∧∀m0,pm=some m0→L+mq.den ρ 0≤m0.den ρ 0:=by
   cases pm with
   | none=>
    simp only []at FB;obtain⟨g1,g2⟩:=bD FB;have g1:=bq g1;have g2:=bq g2;rw [bM,hL,hn]at g2;rw [hh]at g1;exact⟨g1,g2,by simp⟩
   | some m0=>
    simp only []at FB;obtain⟨g1,g2⟩:=bD FB;have g1:=bq g1;have g2:=bq g2;rw [bM,hL]at g2;rw [hh]at g1;have:L+N≤m0.den ρ 0∧m0.den ρ 0≤nn:=h3 _ rfl;refine⟨g1,by omega,?_⟩;rintro _ ⟨⟩;exact g2
  obtain⟨e3,e4,e5⟩:=e3;generalize hm:mq.den ρ 0=m at*;have JV:L.toNat+m.toNat≤(Option.map ag (Option.map (fun m=>E.den ρ m 0) pm)).getD c:=by
   cases pm with
   | none=>simp only [Option.map_none,Option.getD_none];omega
   | some m0=>
    have:=e5 _ rfl;simp only [Option.map_some,afG];omega
  generalize (Option.map ag (Option.map (fun m=>E.den ρ m 0) pm)).getD c=tp at*;simp only [Option.map_some];refine⟨⟨by simp only [bM,hL,hl];omega,by simp only [bM,eJ,hL,hl,hh,hn];omega,?_,a,c,k+if m.toNat=l.toNat then 0 else l.toNat*s,by rw [hn],by rw [hn];exact hc,?_,?_⟩,e0,e1,?_,_,_,_,rfl,rfl,by simp,?_⟩
  ·simp only [Option.map_some,bM,eJ,hL,hl,hh,hn,hm,aeX];rintro _ rfl;omega
  ·simp only [aD,afG,Option.map_some,bM,eJ,hL,hl,hh,hm];congr 1
   ·split
    ·simp
    ·cases a<;>simp [dq]
   ·omega
   ·omega
  ·simp only [bM,hL,hl,Option.map_some,afG,hm];intro nD;rcases nD with nD | nD
   ·rw [if_neg (by omega),hk (.inl (by omega)),←Nat.add_mul];congr 1;omega
   ·have HU:l=0:=by omega
    have Vu:L=0:=by omega
    subst HU Vu;rw [hk (.inr rfl)];simp
  ·rintro _ ⟨⟩;rw [hm];exact e3
  ·rintro _ ⟨⟩;rw [hm];omega
theorem uV{s:Nat}{v:Value}{n:E}: ∀(cs:List Cut) (x:Value) (p:Part),lp ρ s v x n p→(∀b∈(rp n cs p).2,b.prop ρ)→lp ρ s v (cY ρ s x cs) n (rp n cs p).1
 | [],_,_,h,_=>h
 | c::r,x,p,h,bY=>by
  simp only [rp]at bY ⊢;obtain⟨h1,h2⟩:=bD bY;exact uV r _ _ (h.step c h1).1 h2
theorem nf{md:Bool}{t s n:Nat}{v:Value}{cs:List Value}{S:Nat→Prop}(h:(aE md t s v n cs).p w S): ∃a c,v= .slice a n c∧n≤c:=by
 obtain⟨h0,_⟩:=h;cases md with
 | true=>
  simp only [if_true]at h0;rcases h0.2 with⟨rfl,rfl⟩ | ⟨g,o,cap,cur,rfl,_,CI,_⟩
  ·exact⟨_,_,rfl,Nat.le_refl _⟩
  ·exact⟨_,_,rfl,CI⟩
 | false=>
  simp only [Bool.false_eq_true,if_false]at h0;obtain⟨_,a,m,c',rfl,rfl,PK,_⟩:=h0;exact⟨_,_,rfl,PK⟩
theorem eQ{x:SV}{r:Rt}(h:fE hp x=some r)(cV:Reads hp ρ w S [r.j])(bY: ∀b∈r.vcs,b.prop ρ):
  hp[r.j]? =some (.bC r.md r.v r.t r.s r.n r.aF)∧lp ρ r.s (ρ.vv.getD r.v V1.nil).v (x.val ρ) r.n r.p:=by
 unfold fE at h;split at h
 ·rename_i v;split at h
  ·rename_i j md v' t s n aF hf;cases h;obtain⟨hj,dC⟩:=cU hf;simp only [Ck.lO,beq_iff_eq]at dC;subst dC;have hS:=cV j (by simp) _ hj;exact⟨hj,lp.whole (nf hS)⟩
  ·cases h
 ·rename_i v cs s';split at h
  ·rename_i j md v' t s n aF hf;split at h
   ·rename_i hs;subst hs;cases h;obtain⟨hj,dC⟩:=cU hf;simp only [Ck.lO,beq_iff_eq]at dC;subst dC;have hS:=cV j (by simp) _ hj;exact⟨hj,uV cs _ _ (lp.whole (nf hS)) bY⟩
   ·cases h
  ·cases h
 ·cases h
end
def fF:Option Value→Option Int→Prop
 | none,none=>True
 | some v,some i=> ∃k,v= .int k i
 | _,_=>False
section
variable {P:Program} {ρ:Env} {w:World} {look:Nat→Option SV} {vals:Operand→Value} {hp:List Ck} {S:Nat→Nat→Prop} {nb nv:Nat} {T:List TI}
theorem iI(sx:so ρ look vals){o:Option Operand}{l:Option E}(h:xH look o=some l):fF (o.map vals) (l.map fun e:E=>e.den ρ 0):=by
 unfold xH at h;split at h
 ·cases h;exact True.intro
 ·split at h
  ·rename_i k e he;cases h;exact⟨k,eP sx he⟩
  ·cases h
theorem rq(isS:Bool)(N C:Nat){lo hi mx:Option Value}{l h m:Option Int}(hl:fF lo l)(hh:fF hi h)(hm:fF mx m)(hx:m.isSome=true→h.isSome=true)
  (h0:0≤l.getD 0) (h1:l.getD 0≤h.getD (N:Int)) (h2: ∀x,m=some x→h.getD (N:Int)≤x∧x≤C) (h3:m=none→h.getD (N:Int)≤C):
  (afD isS N C lo hi mx).run P w= .ok ((l.getD 0).toNat,(h.getD (N:Int)).toNat,(m.map ag).getD C) w:=by
 have hb:=fun(k:IntKind) (i:Int) (y:Nat) (code:BoundsCode) (a:0≤i) (b:i≤y)=>run_sliceBound (P:=P) (w:=w) k i y code a b
 cases m with
 | none=>
  have h3:=h3 rfl;cases mx with
  | some v=>exact hm.elim
  | none=>
   cases h with
   | none=>
    cases hi with
    | some v=>exact hh.elim
    | none=>
     cases l with
     | none=>
      cases lo with
      | some v=>exact hl.elim
      | none=>simp [afD]
     | some l=>
      cases lo with
      | none=>exact hl.elim
      | some v=>
       obtain⟨k,rfl⟩:=hl;simp only [afG,Option.getD_none]at h0 h1;simp [afD,hb k l N _ h0 h1]
   | some h=>
    cases hi with
    | none=>exact hh.elim
    | some v=>
     obtain⟨kh,rfl⟩:=hh;simp only [afG]at h1 h3;have hhn:(h.toNat:Int)=h:=Int.toNat_of_nonneg (by omega);cases l with
     | none=>
      cases lo with
      | some v=>exact hl.elim
      | none=>
       simp only [Option.getD_none]at h1;simp [afD,hb kh h C _ h1 h3]
     | some l=>
      cases lo with
      | none=>exact hl.elim
      | some v=>
       obtain⟨k,rfl⟩:=hl;simp only [afG]at h0 h1;simp [afD,hb kh h C _ (by omega) h3,hb k l h.toNat _ h0 (by omega)]
 | some m=>
  obtain⟨g2,g3⟩:=h2 m rfl;cases mx with
  | none=>exact hm.elim
  | some v=>
   obtain⟨km,rfl⟩:=hm;cases h with
   | none=>simp at hx
   | some h=>
    cases hi with
    | none=>exact hh.elim
    | some v=>
     obtain⟨kh,rfl⟩:=hh;simp only [afG]at h1 g2;cases l with
     | none=>
      cases lo with
      | some v=>exact hl.elim
      | none=>
       simp only [Option.getD_none]at h1;simp [afD,hb km m C _ (by omega) g3,hb kh h m.toNat _ (by omega) (by omega)]
     | some l=>
      cases lo with
      | none=>exact hl.elim
      | some v=>
       obtain⟨k,rfl⟩:=hl;simp only [afG]at h0 h1;simp [afD,hb km m C _ (by omega) g3,hb kh h m.toNat _ (by omega) (by omega),hb k l h.toNat _ h0 (by omega)]
theorem nT(hT:bG P T=true){t:TypeId}{tt te:TI}(ht:a_ T t=some tt){e:Nat}(hk:tt.k= .slice e)(gX:a_ T e=some te)
  (a:Option Addr) (N C:Nat) {lo hi mx:Option Value} {l h m:Option Int} (hl:fF lo l) (hh:fF hi h) (hm:fF mx m) (hx:m.isSome=true→h.isSome=true)
  (h0:0≤l.getD 0) (h1:l.getD 0≤h.getD (N:Int)) (h2: ∀x,m=some x→h.getD (N:Int)≤x∧x≤C) (h3:m=none→h.getD (N:Int)≤C):
  (Instr.sliceAt t (.slice a N C) lo hi mx).run P w= .ok (aD te.size (.slice a N C) (l.getD 0).toNat (h.getD (N:Int)).toNat (m.map ag)) w:=by
 obtain⟨rfl,tz⟩:=aH hT ht;obtain⟨rfl,cQ⟩:=aH hT gX;have cX:=tz.kind;rw [hk]at cX;have hu:=bO cX;have:=rq (P:=P) (w:=w) true N C hl hh hm hx h0 h1 h2 h3;simp [Instr.sliceAt,Instr.slice,run_underlying hu,this,cQ.sizeOf w,aD]
theorem zj(hT:bG P T=true){t:TypeId}{tt te:TI}(ht:a_ T t=some tt){n e:Nat}(hk:tt.k= .arr n e)(gX:a_ T e=some te)
  (a:Addr) {lo hi mx:Option Value} {l h m:Option Int} (hl:fF lo l) (hh:fF hi h) (hm:fF mx m) (hx:m.isSome=true→h.isSome=true)
  (h0:0≤l.getD 0) (h1:l.getD 0≤h.getD (n:Int)) (h2: ∀x,m=some x→h.getD (n:Int)≤x∧x≤n) (h3:m=none→h.getD (n:Int)≤n):
  (Instr.sliceAt t (.pointer (some a)) lo hi mx).run P w= .ok (aD te.size (.slice (some a) n n) (l.getD 0).toNat (h.getD (n:Int)).toNat (m.map ag)) w:=by
 obtain⟨rfl,tz⟩:=aH hT ht;obtain⟨rfl,cQ⟩:=aH hT gX;have cX:=tz.kind;rw [hk]at cX;have hu:=m_ cX;have:=rq (P:=P) (w:=w) false n n hl hh hm hx h0 h1 h2 h3;simp only [Instr.sliceAt,afa,run_underlying hu,ae3,Instr.sureAddr,afs,this,cQ.sizeOf w,aD];congr 2;split<;>simp
theorem HV(b i0 n0 m0 s:Nat)(l h:Int)(m:Int)(h0:0≤l)(h1:l≤h)(h2:h≤m)(h3:l=0∨l<m):
  aD s (.slice (some ⟨b,i0*s,none⟩) n0 m0) l.toNat h.toNat (some m.toNat)= .slice (some ⟨b,(i0+l.toNat)*s,none⟩) (h - l).toNat (m - l).toNat:=by
 simp only [aD,afG];congr 1
 ·rcases h3 with rfl | h3
  ·simp [jJ]
  ·rw [if_neg (by omega),Option.map_some,gO,Nat.add_mul]
 ·omega
 ·omega
theorem pr(o:Option E)(d:E):(o.getD d).den ρ 0=(o.map fun e:E=>e.den ρ 0).getD (d.den ρ 0):=by cases o<;>rfl
theorem Br{x v:SV}{c:Cut}{s:Nat}(h:xI x c s=some v):
  v.val ρ=aD s (x.val ρ) (c.lo.den ρ 0).toNat (c.hi.den ρ 0).toNat (c.mx.map fun m=>(m.den ρ 0).toNat):=by
 unfold xI at h;split at h
 ·cases h;rfl
 ·split at h
  ·rename_i hs;subst hs;cases h;simp only [SV.val,mT];rfl
  ·cases h
 ·cases h
theorem Mn{l mm:E}(h: ∀b∈(if l= .lit 0 then []else [F2 l mm].filter fun b=>b != .lit true),b.prop ρ):l.den ρ 0=0∨l.den ρ 0<mm.den ρ 0:=by
 split at h
 ·rename_i hl;subst hl;exact .inl rfl
 ·exact .inr (vQ h)
theorem xJ(hT:bG P T=true){t:TypeId}{tt:TI}(fq:a_ T t=some tt){x:SV}{l h m:Option E}{res:hZ}(hs:xK T hp tt.k x l h m=some res)
  {lo hi mx:Option Value} (hl:fF lo (l.map fun e:E=>e.den ρ 0)) (hh:fF hi (h.map fun e:E=>e.den ρ 0)) (hm:fF mx (m.map fun e:E=>e.den ρ 0))
  (cV:Reads hp ρ w S res.rd) (bY: ∀b∈res.vcs,b.prop ρ):
  (Instr.sliceAt t (x.val ρ) lo hi mx).run P w= .ok (res.val.val ρ) w∧res.hO= .none:=by
 unfold xK at hs;split at hs
 ·cases hs
 ·rename_i RR;have hx:(m.map fun e:E=>e.den ρ 0).isSome=true→(h.map fun e:E=>e.den ρ 0).isSome=true:=by
   cases m<;>cases h<;>simp_all
  split at hs
  ·rename_i e b i s n cap hk;split at hs
   ·rename_i te gX;split at hs
    ·rename_i fx;subst fx;simp only [aeX]at hs;subst hs;refine⟨?_,rfl⟩;simp only at bY;obtain⟨bY,q6⟩:=bD bY;obtain⟨bY,q5⟩:=bD bY;obtain⟨bY,q4⟩:=bD bY;obtain⟨bY,q3⟩:=bD bY;obtain⟨bY,q2⟩:=bD bY;obtain⟨q0,q1⟩:=bD bY;have q0:=bq q0;have q1:=bq q1;have q2:=bq q2;have q3:=bq q3;have q4:=bq q4;have q5:=bq q5;have q6:=Mn q6;simp only [pr,E.den]at q0 q1 q2 q3 q4 q5 q6;have e1:(SV.sl b i te.size n cap).val ρ= .slice (some ⟨ρ.bv.getD b 0,(i.den ρ 0).toNat*te.size,none⟩) (n.den ρ 0).toNat (cap.den ρ 0).toNat:=rfl;have XE:((n.den ρ 0).toNat:Int)=n.den ρ 0:=Int.toNat_of_nonneg q5;have iS:=nT (P:=P) (w:=w) hT fq hk gX (some ⟨ρ.bv.getD b 0,(i.den ρ 0).toNat*te.size,none⟩) (n.den ρ 0).toNat (cap.den ρ 0).toNat hl hh hm hx q1 (by rw [XE];exact q2)
      (fun x hx=>by rw [hx]at q3 q4;rw [XE];simp only [afG]at q3 q4;exact⟨q3,by omega⟩) (fun hx=>by rw [hx]at q3;rw [XE];simp only [Option.getD_none]at q3;omega)
     rw [e1,iS,XE];congr 1;have OU:aD te.size (.slice (some ⟨ρ.bv.getD b 0,(i.den ρ 0).toNat*te.size,none⟩) (n.den ρ 0).toNat (cap.den ρ 0).toNat) ((l.map fun e:E=>e.den ρ 0).getD 0).toNat
       ((h.map fun e:E=>e.den ρ 0).getD (n.den ρ 0)).toNat ((m.map fun e:E=>e.den ρ 0).map ag)=
       aD te.size (.slice (some ⟨ρ.bv.getD b 0,(i.den ρ 0).toNat*te.size,none⟩) (n.den ρ 0).toNat (cap.den ρ 0).toNat) ((l.map fun e:E=>e.den ρ 0).getD 0).toNat
       ((h.map fun e:E=>e.den ρ 0).getD (n.den ρ 0)).toNat (some ((m.map fun e:E=>e.den ρ 0).getD (cap.den ρ 0)).toNat):=by
      cases m<;>rfl
     rw [OU,HV _ _ _ _ _ _ _ _ q1 q2 q3 q6];simp only [SV.val,bM,eJ,pr,E.den];congr 4;omega
    ·cases hs
   ·cases hs
  ·rename_i e hk;split at hs
   ·rename_i te gX;split at hs
    ·rename_i hz;cases hs;obtain⟨z1,z2,z3⟩:=hz;refine⟨?_,rfl⟩;have g1:(l.map fun e:E=>e.den ρ 0).getD 0=0:=by cases l with | none=>rfl | some l=>simp only [afG]at z1;subst z1;rfl
     have g2:(h.map fun e:E=>e.den ρ 0).getD 0=0:=by cases h with | none=>rfl | some l=>simp only [afG]at z2;subst z2;rfl
     have g3:(m.map fun e:E=>e.den ρ 0).getD 0=0:=by cases m with | none=>rfl | some l=>simp only [afG]at z3;subst z3;rfl
     have iS:=nT (P:=P) (w:=w) hT fq hk gX none 0 0 hl hh hm hx (by rw [g1];exact Int.le_refl _) (by rw [g1];simp only [Int.natCast_zero,g2];exact Int.le_refl _)
      (fun x hx=>by rw [hx]at g3;simp only [afG]at g3;subst g3;simp only [Int.natCast_zero,g2];exact⟨Int.le_refl _,Int.le_refl _⟩) (fun _=>by simp only [Int.natCast_zero,g2];exact Int.le_refl _)
     rw [show(SV.b_).val ρ= .slice none 0 0 from rfl,iS];congr 1;simp only [g1,Int.natCast_zero,g2];cases m with
     | none=>simp [aD]
     | some m=>simp only [Option.map_some,afG]at g3;simp [aD,g3]
    ·cases hs
   ·cases hs
  ·rename_i e hk _ _;split at hs
   ·rename_i te r gX hr;split at hs
    ·rename_i fx;dsimp only at hs;split at hs
     ·rename_i v hv;cases hs;refine⟨?_,rfl⟩;simp only at bY;obtain⟨uU,FB⟩:=bD bY;obtain⟨hj,dI⟩:=eQ hr cV uU;obtain⟨h1,h2,h3,h4,a,N,C,F_,hN,hC,hCm⟩:=dI.step _ FB;rw [Br hv,F_];simp only [pr,E.den]at h2 h3 h4 hC ⊢;have UG:(h.map fun e:E=>e.den ρ 0).getD (r.p.len.den ρ 0)=(h.map fun e:E=>e.den ρ 0).getD (N:Int)∨(h=none∧r.p.len.den ρ 0≤N):=by
       cases h with
       | none=>right;exact⟨rfl,by omega⟩
       | some h=>left;rfl
      have UG:(h.map fun e:E=>e.den ρ 0).getD (N:Int)=(h.map fun e:E=>e.den ρ 0).getD (r.p.len.den ρ 0):=by
       rcases UG with h | ⟨rfl,hle⟩
       ·exact h.symm
       ·simp only [Option.map_none,Option.getD_none]at h3 ⊢;omega
      have iS:=nT (P:=P) (w:=w) hT fq hk gX a N C hl hh hm hx h2 (by rw [UG];exact h3)
       (fun x hx=>by
        rw [UG];rw [aeY]at hx;obtain⟨me,Yu,rfl⟩:=hx;have:=h4 me Yu;have:=hCm me Yu;exact⟨h4 me Yu,by omega⟩)
       (fun hx=>by
        rw [UG];have:=hC (by simpa using hx);omega)
      rw [iS,UG,fx];congr 2;cases m<;>rfl
     ·cases hs
    ·cases hs
   ·cases hs
  ·rename_i n e b c hk;split at hs
   ·rename_i te gX;split at hs
    ·rename_i fx;obtain⟨fx,Yv⟩:=fx;simp only [aeX]at hs;subst hs;refine⟨?_,rfl⟩;simp only at bY;obtain⟨bY,q6⟩:=bD bY;obtain⟨bY,q4⟩:=bD bY;obtain⟨bY,q3⟩:=bD bY;obtain⟨q1,q2⟩:=bD bY;have q1:=bq q1;have q2:=bq q2;have q3:=bq q3;have q4:=bq q4;have q6:=Mn q6;simp only [pr,E.den]at q1 q2 q3 q4 q6;have hc:c=c/te.size*te.size:=by
      have:=Nat.div_add_mod c te.size;rw [Yv,Nat.add_zero,Nat.mul_comm]at this;exact this.symm
     have e1:(SV.ptr b c).val ρ= .pointer (some ⟨ρ.bv.getD b 0,c/te.size*te.size,none⟩):=by
      rw [←hc];rfl
     have iS:=zj (P:=P) (w:=w) hT fq hk gX ⟨ρ.bv.getD b 0,c/te.size*te.size,none⟩ hl hh hm hx q1 q2
      (fun x hx=>by rw [hx]at q3 q4;simp only [afG]at q3 q4;exact⟨q3,q4⟩) (fun hx=>by rw [hx]at q3;simp only [Option.getD_none]at q3;exact q3)
     rw [e1,iS];congr 1;have OU:aD te.size (.slice (some ⟨ρ.bv.getD b 0,c/te.size*te.size,none⟩) n n) ((l.map fun e:E=>e.den ρ 0).getD 0).toNat
       ((h.map fun e:E=>e.den ρ 0).getD (n:Int)).toNat ((m.map fun e:E=>e.den ρ 0).map ag)=
       aD te.size (.slice (some ⟨ρ.bv.getD b 0,c/te.size*te.size,none⟩) n n) ((l.map fun e:E=>e.den ρ 0).getD 0).toNat
       ((h.map fun e:E=>e.den ρ 0).getD (n:Int)).toNat (some ((m.map fun e:E=>e.den ρ 0).getD (n:Int)).toNat):=by
      cases m<;>simp [aD]
     rw [OU,HV _ _ _ _ _ _ _ _ q1 q2 q3 q6];simp only [SV.val,bM,eJ,pr,E.den];congr 4;generalize c/te.size=q;omega
    ·cases hs
   ·cases hs
  ·cases hs
end
end Go.RX
