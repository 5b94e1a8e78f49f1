/- Executor. -/
import Derived.Test.YtphemenngjkfbaaM06
open Go.Builtin renaming append_ → ad2
open Go.Instr renaming sliceBounds → aen
open Go.Result renaming andThen_ok → adR
open Go.Sem renaming run_bind → adV, run_pure → aeb
open Int renaming toNat → ag
open List renaming append_nil → adW, eq_nil_of_length_eq_zero → adZ, mem_filter → ad7, mem_range → adU
open Option renaming getD_some → aes, map_eq_some_iff → adM
open Option.some renaming injEq → adK
open Prod.mk renaming injEq → aek
namespace Go.RX
section
variable {P:Program} {ρ:Env} {w:World} {look:Nat→Option SV} {bK:Operand→Value} {hp:List Ck} {S:Nat→Nat→Prop} {nb nv:Nat} {T:List TI}
theorem cA{i:E}{n:Nat}(h:eU i=some n):i.den ρ 0=n:=by
 unfold eU at h;split at h
 ·cases h;rfl
 ·cases h
theorem uH(b:Nat)(i:E)(s c:Nat):(DO b i s c).val ρ= .pointer (some ⟨ρ.bv.getD b 0,(i.den ρ 0).toNat*s+c,none⟩):=by
 unfold DO;split
 ·rename_i n hn;simp [SV.val,cA hn]
 ·rfl
theorem tm(hT:bw P T=true){s:TypeId}{ts ti:TI}(hs:aS T s=some ts){fs:List (Nat×Nat)}(hk:ts.k= .struct fs){f t off:Nat}
  (hf:fs[f]? =some (t,off)) (ht:aS T t=some ti) (eV: ¬ti.size=0) (a:Addr):
  (Instr.fieldAt s (.pointer (some a)) f).run P w= .ok (.pointer (some (a.add off))) w:=by
 obtain⟨rfl,sW⟩:=ay hT hs;obtain⟨rfl,cN⟩:=ay hT ht;have cT:=sW.kind;rw [hk]at cT;obtain⟨fa,hu,PA⟩:=mK cT;subst PA;rw [List.getElem?_map,adM]at hf;obtain⟨fd,Rh,he⟩:=hf;rw [Array.getElem?_toList]at Rh;simp only [aek]at he;have h1:(Go.sizeOf fd.type).run P w= .ok ti.size w:=by rw [he.1];exact cN.sizeOf w
 simp [Instr.fieldAt,run_underlying hu,Rh,Instr.sureAddr,fieldPlace,h1,eV,he.2]
theorem wK(hT:bw P T=true){s:TypeId}{ts ti:TI}(hs:aS T s=some ts){fs:List (Nat×Nat)}(hk:ts.k= .struct fs){f t off:Nat}
  (hf:fs[f]? =some (t,off)) (ht:aS T t=some ti) {cs x:List SV} {v:SV} (hx:jc off ti.size cs=some x) (hv:iz ti.k.agg x=some v):
  (Instr.field s (.agg (SV.ar ρ cs).toArray) f).run P w= .ok (v.val ρ) w:=by
 obtain⟨rfl,sW⟩:=ay hT hs;obtain⟨rfl,cN⟩:=ay hT ht;have cT:=sW.kind;rw [hk]at cT;obtain⟨fa,hu,PA⟩:=mK cT;subst PA;rw [List.getElem?_map,adM]at hf;obtain⟨fd,Rh,he⟩:=hf;rw [Array.getElem?_toList]at Rh;simp only [aek]at he;have h1:=yl (ρ:=ρ) (w:=w) cN hx hv;rw [←he.1,←he.2]at h1;simp [Instr.field,run_underlying hu,Rh,asAgg,h1]
theorem pW(hT:bw P T=true){t:TypeId}{tt te:TI}(ht:aS T t=some tt){e:Nat}(hk:tt.k= .slice e)(gK:aS T e=some te)
  (a:Addr) (n c:Nat) (k:IntKind) (j:Int) (h0:0≤j) (h1:j<n):
  (Instr.indexAt t (.slice (some a) n c) (.int k j)).run P w= .ok (.pointer (some (a.add (j.toNat*te.size)))) w:=by
 obtain⟨rfl,sW⟩:=ay hT ht;obtain⟨rfl,cN⟩:=ay hT gK;have cT:=sW.kind;rw [hk]at cT;have hu:=bL cT;simp [Instr.indexAt,run_underlying hu,asIntOf,h0,h1,cN.sizeOf w]
theorem ym(hT:bw P T=true){t:TypeId}{tt te:TI}(ht:aS T t=some tt){n e:Nat}(hk:tt.k= .arr n e)(gK:aS T e=some te)
  (a:Addr) (k:IntKind) (j:Int) (h0:0≤j) (h1:j<n):
  (Instr.indexAt t (.pointer (some a)) (.int k j)).run P w= .ok (.pointer (some (a.add (j.toNat*te.size)))) w:=by
 obtain⟨rfl,sW⟩:=ay hT ht;obtain⟨rfl,cN⟩:=ay hT gK;have cT:=sW.kind;rw [hk]at cT;have hu:=nS cT;simp [Instr.indexAt,run_underlying hu,asIntOf,Instr.sureAddr,h0,h1,cN.sizeOf w]
theorem tn(hT:bw P T=true){t:TypeId}{tt te:TI}(ht:aS T t=some tt){n e:Nat}(hk:tt.k= .arr n e)(gK:aS T e=some te)
  (cs:Array Value) (k:IntKind) (j:Int) (h0:0≤j) (h1:j<n) {v:Value} (hp:(part te.t cs (j.toNat*te.size)).run P w= .ok v w):
  (Instr.index t (.agg cs) (.int k j)).run P w= .ok v w:=by
 obtain⟨rfl,sW⟩:=ay hT ht;obtain⟨rfl,cN⟩:=ay hT gK;have cT:=sW.kind;rw [hk]at cT;have hu:=nS cT;simp [Instr.index,run_underlying hu,asIntOf,h0,h1,cN.sizeOf w,hp]
theorem oC(hT:bw P T=true){t:TypeId}{tt:TI}(ht:aS T t=some tt){e:Nat}(hk:tt.k= .slice e)(a:Option Addr)(n c:Nat)(ty:TypeId):
  (Builtin.len_ #[t] ty #[.slice a n c]).run P w= .ok (goInt n) w:=by
 obtain⟨rfl,sW⟩:=ay hT ht;have cT:=sW.kind;rw [hk]at cT;have hu:=bL cT;simp [Builtin.len_,run_underlying hu]
theorem yn(hT:bw P T=true){t:TypeId}{tt:TI}(ht:aS T t=some tt)(hk:tt.k= .str)(s:ByteArray)(ty:TypeId):
  (Builtin.len_ #[t] ty #[.string s]).run P w= .ok (goInt s.size) w:=by
 obtain⟨rfl,sW⟩:=ay hT ht;have cT:=sW.kind;rw [hk]at cT;have hu:P.underlying tt.t=some .string:=by
  unfold gR at cT;split at cT<;>simp_all
 simp [Builtin.len_,run_underlying hu]
theorem DP(aA:List bV)(n:Nat):aF ρ (n+1) aA=aF ρ n aA++rowAt ρ aA n:=by
 unfold aF aH rowAt;rw [List.range_succ,List.flatMap_append];simp
theorem JL(c1 c2:List bV)(n:Nat)(h: ∀i,i<n→rowAt ρ c1 i=rowAt ρ c2 i):aF ρ n c1=aF ρ n c2:=by
 unfold aF aH;unfold rowAt at h;rw [List.flatMap_def,List.flatMap_def];congr 1;exact List.map_congr_left fun i hi=>h i (adU.1 hi)
theorem o7(t ty e:TypeId)(i:TypeInfo)(z:Value)(size bytes:Nat)(ht:P.underlying t=some (.slice e))(hi:P.info? e=some i)(hz:i.zero=some z)
  (iZ:i.size=size) (uu:i.bytes=bytes) (pz:z.cells.size=size)
  (b:Addr) (n:Nat) (xs:List Value) (Gi:xs.length=n*size) (holds: ∀j u,xs[j]? =some u→w.cell? (b.add j)=some u)
  (a:Addr) (m c:Nat) (hm:0<m) (news:List Value) (hl:news.length=m*size) (DQ: ∀j u,news[j]? =some u→w.cell? (a.add j)=some u)
  (O8:n+m≤maxLen) (oD:(n+m)*bytes≤140737488355328):
  ∃v' w',(ad2 #[t,t] ty #[.slice (some b) n n,.slice (some a) m c]).run P w= .ok v' w'∧w'.hY e size v' (n+m) (xs++news)∧w.grownBy w' none∧v'.ownBlock=some w.heap.size:=by
 subst iZ;subst uu;have hlen:(xs++news).length=(n+m)*i.size:=by rw [List.length_append,Gi,hl,Nat.add_mul]
 have wG:=grownCap_ge w (n+m) n e;have Mf:grownCap w (n+m) n e≤maxLen:=grownCap_le_maxLen w (n+m) n e O8;have hr:=run_append_grow (P:=P) w t ty e i z ht hi hz b n n xs Gi holds a m c news hl DQ (by omega) (by simp only [maxLen]at O8;omega) (growslice_fits (by omega) oD);refine⟨_,_,hr,⟨hlen,.inr ⟨w.heap.size,0,_,_,rfl,⟨e,_,heap_alloc_new w.drew _,.zero _⟩,wG,Mf,?_,?_⟩⟩,⟨rfl,rfl,rfl,by simp,fun k hk _=>heap_alloc_old w.drew _ hk⟩,rfl⟩
 ·simp only [Array.size_append,List.size_toArray,size_zeroCells,pz,Gi,hl,←Nat.add_mul,Nat.zero_add];intro _;apply Nat.le_of_eq;congr 1;omega
 ·simp only [Array.toList_append,List.drop_zero]
  first
   | (rw [←hlen];exact List.take_left)
   | (rw [List.append_assoc,←List.append_assoc,←hlen];exact List.take_left)
theorem nk(t ty e:TypeId)(i:TypeInfo)(z:Value)(size bytes:Nat)(ht:P.underlying t=some (.slice e))(hi:P.info? e=some i)(hz:i.zero=some z)
  (iZ:i.size=size) (uu:i.bytes=bytes) (pz:z.cells.size=size) (eV:0<size)
  (v:Value) (n:Nat) (xs:List Value) (cE:w.hY e size v n xs)
  (a:Addr) (m c:Nat) (news:List Value) (hl:news.length=m*size) (DQ: ∀j u,news[j]? =some u→w.cell? (a.add j)=some u) (h1: ∀u∈news,u.oneCell'=true)
  (O8:n+m≤maxLen) (oD:(n+m)*bytes≤140737488355328):
  ∃v' w',(ad2 #[t,t] ty #[v,.slice (some a) m c]).run P w= .ok v' w'∧w'.hY e size v' (n+m) (xs++news)∧w.grownBy w' v.ownBlock∧
   (v'.ownBlock=v.ownBlock∨v'.ownBlock=some w.heap.size):=by
 rcases cE.2 with⟨rfl,rfl⟩ | ⟨g,o,cap,cur,rfl,⟨t',fz,hg,Gj⟩,Dv,Pn,m_,zZ⟩
 ·have hx:xs=[]:=adZ (by simpa using cE.1);subst hx;obtain⟨v',w',r1,r2,r3,_,r5⟩:=run_append_own_at (P:=P) w 0 t ty e i z size bytes ht hi hz iZ uu pz eV (.slice none 0 0) 0 [] (World.ownsRow_nil w 0 e size) a m c news hl DQ h1 O8 oD (Nat.zero_le _);exact⟨v',w',r1,Js r2,r3,r5⟩
 ·subst iZ;subst uu;have hlen:(xs++news).length=(n+m)*i.size:=by rw [List.length_append,cE.1,hl,Nat.add_mul]
  by_cases tq:n+m≤cap
  ·by_cases JM:m=0
   ·subst JM;have:news=[]:=adZ (by simpa using hl);subst this;refine⟨_,w,?_,by simpa using cE,⟨rfl,rfl,rfl,Nat.le_refl _,fun _ _ _=>rfl⟩,.inl rfl⟩;simp [ad2,run_underlying ht,sizeOf,typeInfo,hi,Builtin.lenOf,Builtin.firstCells,Dv,storeCells,loadCells,loadCellsFrom]
   have m_:=m_ (by omega);have hmul:(n+m)*i.size≤cap*i.size:=Nat.mul_le_mul_right _ tq;rw [Nat.add_mul]at hmul;have sb:o+n*i.size+news.length≤cur.size:=by omega
   have hfc:=run_firstCells_some (P:=P) w i.size m a m c news hl DQ;have ow:=eG (P:=P) g (o+n*i.size) t' fz news 0 cur w hg Gj (by simpa using sb) h1;simp only [Nat.add_zero]at ow;have hr:(ad2 #[t,t] ty #[.slice (some ⟨g,o,none⟩) n cap,.slice (some a) m c]).run P w= .ok (.slice (some ⟨g,o,none⟩) (n+m) cap) (w.setRow g (cur.toList.take (o+n*i.size)++news++cur.toList.drop (o+n*i.size+news.length)).toArray):=by
    simp [ad2,run_underlying ht,sizeOf,typeInfo,hi,Builtin.lenOf,tq,hfc,eD,ow]
   refine⟨_,_,hr,⟨hlen,.inr ⟨g,o,cap,_,rfl,⟨t',fz,setRow_heap w g cur _ t' _ hg,by refine Eq.mp (congrArg (pH · fz) ?_) Gj;simp only [List.size_toArray,List.length_append,List.length_take,List.length_drop,Array.length_toList]at sb ⊢;omega⟩,tq,Pn,?_,?_⟩⟩,⟨rfl,rfl,rfl,by simp,fun k _ hk=>setRow_other w g k _ (fun e=>hk (by simp [Value.ownBlock,e]))⟩,Or.inl rfl⟩
   ·simp only [List.size_toArray,List.length_append,List.length_take,List.length_drop,Array.length_toList];intro _;omega
   ·have:=pP cur.toList news o (n*i.size) ((n+m)*i.size) (by rw [Nat.add_mul];omega) (by rw [Nat.add_mul];simp;omega);simp only;rw [this,List.take_take,Nat.min_eq_left (by rw [Nat.add_mul];omega),zZ,hl,←Nat.add_mul,List.drop_eq_nil_of_le (by rw [List.length_take];exact Nat.min_le_left _ _),adW]
  ·have wG:=grownCap_ge w (n+m) cap e;have Mf:grownCap w (n+m) cap e≤maxLen:=grownCap_le_maxLen w (n+m) cap e O8;have hr:=run_append_grow (P:=P) w t ty e i z ht hi hz ⟨g,o,none⟩ n cap xs cE.1 (i_ cE) a m c news hl DQ (by omega) (by simp only [maxLen]at O8;omega) (growslice_fits (by omega) oD);refine⟨_,_,hr,⟨hlen,.inr ⟨w.heap.size,0,_,_,rfl,⟨e,_,heap_alloc_new w.drew _,.zero _⟩,wG,Mf,?_,?_⟩⟩,⟨rfl,rfl,rfl,by simp,fun k hk _=>heap_alloc_old w.drew _ hk⟩,Or.inr rfl⟩
   ·simp only [Array.size_append,List.size_toArray,size_zeroCells,pz,cE.1,hl,←Nat.add_mul,Nat.zero_add];intro _;apply Nat.le_of_eq;congr 1;omega
   ·simp only [Array.toList_append,List.drop_zero]
    first
     | (rw [←hlen];exact List.take_left)
     | (rw [List.append_assoc,←List.append_assoc,←hlen];exact List.take_left)
theorem BO(hT:bw P T=true)(ng:ρ.Ok){ts:TypeId}{tt te:TI}(ht:aS T ts=some tt){e:Nat}(hk:tt.k= .slice e)(gK:aS T e=some te){s:Nat}(hs:te.size=s)(DR:0<s)
  {v j j' b cap:Nat} {n:E} {aA aR:List bV} {cs:List SV} {wr:Bool} (hj:hp[j]? =some (.cc true v e s n aA)) (hS:((Ck.cc true v e s n aA).den ρ).p w (S j))
  (_:hp[j']? =some (.row b wr cs)) (PC:((Ck.row b wr cs).den ρ).p w (S j')) (hw:s=bX aA) (hlen:jO cs=s) (iV:cs.all SV.one=true) (pR:kR n cs aA=some aR)
  (h0:0≤n.den ρ 0) (Gt:(n.den ρ 0+1)*(max 1 te.bytes:Nat)≤140737488355328) (ty:TypeId):
  sV P ρ w hp S nb nv ((do pure (.value (←ad2 #[ts,ts] ty #[(SV.vv v).val ρ,.slice (some ⟨ρ.bv.getD b 0,0,none⟩) 1 cap])):Sem Next).run P w)
   {val:= .vv nv,gJ:= .app j (.cc true nv e s (dC n (.lit 1)) aR)}:=by
 obtain⟨rfl,fk⟩:=ay hT ht;obtain⟨rfl,cN⟩:=ay hT gK;have cT:=fk.kind;rw [hk]at cT;have hu:=bL cT;obtain⟨i,hi,eV,uu,z,hz,hc⟩:=cN.info;have pz:z.cells.size=te.size:=by rw [←Array.length_toList,←hc ρ,bp,cN.Aa]
 obtain⟨cE,jH⟩:=hS;simp only [if_true]at cE;have aaC:((n.den ρ 0).toNat+1)*(max 1 te.bytes)≤140737488355328:=by
  have:(((n.den ρ 0).toNat+1:Nat):Int)=n.den ρ 0+1:=by omega
  rw [←this]at Gt;have h2:((((n.den ρ 0).toNat+1)*(max 1 te.bytes):Nat):Int)≤((140737488355328:Nat):Int):=by rw [Int.natCast_mul];exact Gt
  exact Int.ofNat_le.1 h2
 have Ua:((n.den ρ 0).toNat+1)*1≤((n.den ρ 0).toNat+1)*max 1 te.bytes:=Nat.mul_le_mul_left _ (Nat.le_max_left _ _);have UN:((n.den ρ 0).toNat+1)*te.bytes≤((n.den ρ 0).toNat+1)*max 1 te.bytes:=Nat.mul_le_mul_left _ (Nat.le_max_right _ _);obtain⟨v',w',hr,how,hg,Lw⟩:=nk (P:=P) (w:=w) tt.t ty te.t i z s te.bytes hu hi hz (by rw [eV,hs]) uu (by rw [pz,hs]) DR
  _ _ _ cE ⟨ρ.bv.getD b 0,0,none⟩ 1 cap (SV.ar ρ cs) (by rw [bp,Nat.one_mul];exact hlen)
  (fun k u hk=>iF PC 0 k u hk) (lJ ρ iV ng) (Nat.le_trans (show(n.den ρ 0).toNat+1≤140737488355328 by omega) (by unfold maxLen;omega)) (by omega)
 have fl:aF ρ ((dC n (.lit 1)).den ρ 0).toNat aR=aF ρ (n.den ρ 0).toNat aA++SV.ar ρ cs:=by
  have e1:((dC n (.lit 1)).den ρ 0).toNat=(n.den ρ 0).toNat+1:=by
   rw [bH];simp only [E.den];omega
  obtain⟨p1,p2,p3,p4⟩:=jd ρ pR;rw [e1,DP,p4,JL aR aA _ (fun k hk=>p3 k (by omega))];congr 1;rw [List.drop_eq_nil_of_le,adW];rw [show(rowAt ρ aA (n.den ρ 0).toNat).length=bX aA from dj ρ aA _,bp,←hw];exact Nat.le_of_eq hlen.symm
 refine⟨te.t,s,_,aR,v',w',fun k=>v'.ownBlock=some k,rfl,rfl,by simp only [SV.val,adV,hr,adR,aeb],?_,⟨_,hj,rfl⟩,?_,?_,⟨?_,fun k=>⟨fun h=>⟨h,.inl rfl⟩,fun h=>h.1⟩⟩,?_⟩
 ·rcases how.2 with⟨rfl,_⟩ | ⟨g,o,cap,cur,rfl,_⟩<;>rfl
 ·exact⟨hg.os,hg.tape,hg.output,hg.size⟩
 ·intro k hk hn;refine hg.block k hk fun he=>hn ((jH k).2 ⟨he.symm,.inl rfl⟩)
 ·simp only [if_true];have e1:((dC n (.lit 1)).den ρ 0).toNat=(n.den ρ 0).toNat+1:=by
   rw [bH];simp only [E.den];omega
  rw [fl,e1];exact how
 ·intro k hk;rcases Lw with h | h
  ·left;rw [jH k,←h];exact⟨hk,.inl rfl⟩
  ·right;rw [hk]at h;cases h;exact⟨Nat.le_refl _,gO how hk⟩
theorem uI(hT:bw P T=true)(ng:ρ.Ok){ts:TypeId}{tt te:TI}(ht:aS T ts=some tt){e:Nat}(hk:tt.k= .slice e)(gK:aS T e=some te){s:Nat}(hs:te.size=s)(DR:0<s)
  {j' b cap:Nat} {aA aR:List bV} {cs:List SV} {wr:Bool}
  (PC:((Ck.row b wr cs).den ρ).p w (S j')) (hw:s=bX aA) (hlen:jO cs=s) (iV:cs.all SV.one=true) (pR:kR (.lit 0) cs aA=some aR)
  (Gt:te.bytes≤140737488355328) (ty:TypeId):
  sV P ρ w hp S nb nv ((do pure (.value (←ad2 #[ts,ts] ty #[SV.bT.val ρ,.slice (some ⟨ρ.bv.getD b 0,0,none⟩) 1 cap])):Sem Next).run P w)
   {val:= .vv nv,gJ:= .own (.cc true nv e s (.lit 1) aR)}:=by
 obtain⟨rfl,fk⟩:=ay hT ht;obtain⟨rfl,cN⟩:=ay hT gK;have cT:=fk.kind;rw [hk]at cT;have hu:=bL cT;obtain⟨i,hi,eV,uu,z,hz,hc⟩:=cN.info;have pz:z.cells.size=te.size:=by rw [←Array.length_toList,←hc ρ,bp,cN.Aa]
 obtain⟨v',w',hr,how,hg,Lw⟩:=nk (P:=P) (w:=w) tt.t ty te.t i z s te.bytes hu hi hz (by rw [eV,hs]) uu (by rw [pz,hs]) DR
  (.slice none 0 0) 0 [] (lG w te.t s) ⟨ρ.bv.getD b 0,0,none⟩ 1 cap (SV.ar ρ cs) (by rw [bp,Nat.one_mul];exact hlen)
  (fun k u hk=>iF PC 0 k u hk) (lJ ρ iV ng) (by unfold maxLen;omega) (by omega)
 have fl:aF ρ 1 aR=SV.ar ρ cs:=by
  obtain⟨p1,p2,p3,p4⟩:=jd ρ pR;have e0:aF ρ 1 aR=aF ρ 0 aR++rowAt ρ aR 0:=DP aR 0;rw [e0];simp only [E.den,Int.toNat_zero]at p4;rw [p4,List.drop_eq_nil_of_le,adW]
  ·simp [aF,aH]
  ·rw [show(rowAt ρ aA 0).length=bX aA from dj ρ aA _,bp,←hw];exact Nat.le_of_eq hlen.symm
 refine⟨te.t,s,_,aR,v',w',fun k=>v'.ownBlock=some k,rfl,rfl,by simp only [SV.val,adV,hr,adR,aeb],?_,⟨hg.os,hg.tape,hg.output,hg.size⟩,fun k hk=>hg.block k hk (by simp [Value.ownBlock]),⟨?_,fun k=>⟨fun h=>⟨h,.inl rfl⟩,fun h=>h.1⟩⟩,?_⟩
 ·rcases how.2 with⟨rfl,_⟩ | ⟨g,o,cap,cur,rfl,_⟩<;>rfl
 ·simp only [if_true];have e1:((E.lit 1).den ρ 0).toNat=1:=rfl;rw [e1,fl];simpa using how
 ·intro k hk;rcases Lw with h | h
  ·rw [hk]at h;cases h
  ·rw [hk]at h;cases h;exact⟨Nat.le_refl _,gO how hk⟩
end
section
variable {P:Program} {ρ:Env} {w:World} {look:Nat→Option SV} {bK:Operand→Value} {hp:List Ck} {S:Nat→Nat→Prop} {nb nv:Nat} {T:List TI}
theorem bc{a b:E}(h: ∀c∈dG a b,c.prop ρ):a.den ρ 0≤b.den ρ 0:=by
 unfold dG at h;split at h
 ·rename_i he;subst he;exact Int.le_refl _
 ·have key:(wF a b).den ρ=true:=by
   by_cases hl:wF a b= .lit true
   ·rw [hl];rfl
   ·exact(BE.bY ρ _).2 (h _ (ad7.2 ⟨by simp,by simpa using hl⟩))
  rw [gP]at key;exact of_decide_eq_true key
theorem wL{a b:E}(h: ∀c∈[Gh a b].filter fun b=>b != .lit true,c.prop ρ):a.den ρ 0<b.den ρ 0:=by
 have key:(Gh a b).den ρ=true:=by
  by_cases hl:Gh a b= .lit true
  ·rw [hl];rfl
  ·exact(BE.bY ρ _).2 (h _ (ad7.2 ⟨by simp,by simpa using hl⟩))
 rw [tb]at key;exact of_decide_eq_true key
theorem bu{α:Type}{q:α→Prop}{a b:List α}(h: ∀c∈a++b,q c):(∀c∈a,q c)∧∀c∈b,q c:=
 ⟨fun c hc=>h c (List.mem_append_left _ hc),fun c hc=>h c (List.mem_append_right _ hc)⟩
theorem jX(a:Addr):a.add 0=a:=by simp [Addr.add]
theorem BP(a:Option Addr):a.map (·.add 0)=a:=by cases a<;>simp [jX]
structure UO (s:Nat) (v x:Value) (n L N:Int) (mx:Option Int):Prop where
 lo:0≤L
 hi:L+N≤n
 top: ∀m,mx=some m→L+N≤m∧m≤n
 is: ∃a c k,v= .slice a n.toNat c∧n.toNat≤c∧x= .slice (a.map (·.add k)) N.toNat ((mx.map ag).getD c - L.toNat)∧(L.toNat<(mx.map ag).getD c∨L=0→k=L.toNat*s)
abbrev Part.den(ρ:Env)(p:Part):Int×Int×Option Int:=(p.lo.den ρ 0,p.len.den ρ 0,p.mx.map fun m=>m.den ρ 0)
def kM(ρ:Env)(s:Nat)(v x:Value)(n:E)(p:Part):Prop:=UO s v x (n.den ρ 0) (p.lo.den ρ 0) (p.len.den ρ 0) (p.mx.map fun m=>m.den ρ 0)
theorem kM.whole{s:Nat}{v:Value}{n:E}(h: ∃a c,v= .slice a (n.den ρ 0).toNat c∧(n.den ρ 0).toNat≤c):kM ρ s v v n ⟨.lit 0,n,none⟩:=by
 obtain⟨a,c,hv,hc⟩:=h;refine⟨by simp [E.den],by simp [E.den],by simp,a,c,0,hv,hc,?_,?_⟩
 ·rw [BP];simpa [E.den] using hv
 ·simp [E.den]
theorem kM.step{s:Nat}{v x:Value}{n:E}{p:Part}(h:kM ρ s v x n p)(c:Cut)(cb: ∀b∈(gm n p c).2,b.prop ρ):
  kM ρ s v (bJ s x (c.lo.den ρ 0).toNat (c.hi.den ρ 0).toNat (c.mx.map fun m=>(m.den ρ 0).toNat)) n (gm n p c).1∧
  0≤c.lo.den ρ 0∧c.lo.den ρ 0≤c.hi.den ρ 0∧(∀m,c.mx=some m→c.hi.den ρ 0≤m.den ρ 0)∧
  ∃a N C,x= .slice a N C∧N=(p.len.den ρ 0).toNat∧(c.mx=none→(c.hi.den ρ 0).toNat≤C)∧∀m,c.mx=some m→(m.den ρ 0).toNat≤C:=by
 obtain⟨lo,hi,mx⟩:=c;obtain⟨pl,pn,pm⟩:=p;obtain⟨h1,h2,h3,a,c,k,rfl,hc,rfl,hk⟩:=h;simp only [gm]at cb ⊢;obtain⟨vO,FK⟩:=bu cb;obtain⟨Xe,vO⟩:=bu vO;have e0:=bc Xe;have e1:=bc vO;simp only [E.den]at e0;simp only at h1 h2 h3 hk;generalize hL:pl.den ρ 0=L at*;generalize hN:pn.den ρ 0=N at*;generalize hn:n.den ρ 0=nn at*;generalize hl:lo.den ρ 0=l at*;generalize hh:hi.den ρ 0=hd at*;cases mx with
 | none=>
  cases pm with
  | none=>
   simp only []at FK;have e2:=bc FK;rw [bH,hL,hh,hn]at e2;simp only [Option.map_none,Option.getD_none]at hk ⊢;refine⟨⟨by simp only [bH,hL,hl];omega,by simp only [bH,eE,hL,hl,hh,hn];omega,by simp,a,c,k+if c - L.toNat=l.toNat then 0 else l.toNat*s,by rw [hn],by rw [hn];exact hc,?_,?_⟩,e0,e1,by simp,_,_,_,rfl,rfl,fun _=>by omega,by simp⟩
   ·simp only [bJ,Option.map_none,Option.getD_none,bH,eE,hL,hl,hh];congr 1
    ·split
     ·simp
     ·cases a<;>simp [dr]
    ·omega
    ·omega
   ·simp only [bH,hL,hl];intro uv;rcases uv with uv | uv
    ·simp only [Option.map_none,Option.getD_none]at uv;rw [if_neg (by omega),hk (.inl (by omega)),←Nat.add_mul];congr 1;omega
    ·have Ia:l=0:=by omega
     have UP:L=0:=by omega
     subst Ia UP;rw [hk (.inr rfl)];simp
  | some m0=>
   simp only []at FK;have e2:=bc FK;rw [bH,hL,hh]at e2;simp only [Option.map_some,aes]at hk h3 ⊢;have h3':=h3 _ rfl;generalize hm:m0.den ρ 0=m at*;refine⟨⟨by simp only [bH,hL,hl];omega,by simp only [bH,eE,hL,hl,hh,hn];omega,?_,a,c,k+if m.toNat - L.toNat=l.toNat then 0 else l.toNat*s,by rw [hn],by rw [hn];exact hc,?_,?_⟩,e0,e1,by simp,_,_,_,rfl,rfl,fun _=>by omega,by simp⟩
   ·simp only [Option.map_some,bH,eE,hL,hl,hh,hn,hm,adK];rintro _ rfl;omega
   ·simp only [bJ,Option.map_none,Option.getD_none,aes,Option.map_some,bH,eE,hL,hl,hh,hm];congr 1
    ·split
     ·simp
     ·cases a<;>simp [dr]
    ·omega
    ·omega
   ·simp only [bH,hL,hl,Option.map_some,aes,hm];intro uv;rcases uv with uv | uv
    ·rw [if_neg (by omega),hk (.inl (by omega)),←Nat.add_mul];congr 1;omega
    ·have Ia:l=0:=by omega
     have UP:L=0:=by omega
     subst Ia UP;rw [hk (.inr rfl)];simp
 | some mq=>
  have e3:(hd≤mq.den ρ 0)∧L+mq.den ρ 0≤nn∧∀m0,pm=some m0→L+mq.den ρ 0≤m0.den ρ 0:=by
   cases pm with
   | none=>
    simp only []at FK;obtain⟨g1,g2⟩:=bu FK;have g1:=bc g1;have g2:=bc g2;rw [bH,hL,hn]at g2;rw [hh]at g1;exact⟨g1,g2,by simp⟩
   | some m0=>
    simp only []at FK;obtain⟨g1,g2⟩:=bu FK;have g1:=bc g1;have g2:=bc g2;rw [bH,hL]at g2;rw [hh]at g1;have:L+N≤m0.den ρ 0∧m0.den ρ 0≤nn:=h3 _ rfl;refine⟨g1,by omega,?_⟩;rintro _ ⟨⟩;exact g2
  obtain⟨e3,e4,e5⟩:=e3;generalize hm:mq.den ρ 0=m at*;have JN:L.toNat+m.toNat≤(Option.map ag (Option.map (fun m=>E.den ρ m 0) pm)).getD c:=by
   cases pm with
   | none=>simp only [Option.map_none,Option.getD_none];omega
   | some m0=>
    have:=e5 _ rfl;simp only [Option.map_some,aes];omega
  generalize (Option.map ag (Option.map (fun m=>E.den ρ m 0) pm)).getD c=tp at*;simp only [Option.map_some];refine⟨⟨by simp only [bH,hL,hl];omega,by simp only [bH,eE,hL,hl,hh,hn];omega,?_,a,c,k+if m.toNat=l.toNat then 0 else l.toNat*s,by rw [hn],by rw [hn];exact hc,?_,?_⟩,e0,e1,?_,_,_,_,rfl,rfl,by simp,?_⟩
  ·simp only [Option.map_some,bH,eE,hL,hl,hh,hn,hm,adK];rintro _ rfl;omega
  ·simp only [bJ,aes,Option.map_some,bH,eE,hL,hl,hh,hm];congr 1
   ·split
    ·simp
    ·cases a<;>simp [dr]
   ·omega
   ·omega
  ·simp only [bH,hL,hl,Option.map_some,aes,hm];intro uv;rcases uv with uv | uv
   ·rw [if_neg (by omega),hk (.inl (by omega)),←Nat.add_mul];congr 1;omega
   ·have Ia:l=0:=by omega
    have UP:L=0:=by omega
    subst Ia UP;rw [hk (.inr rfl)];simp
  ·rintro _ ⟨⟩;rw [hm];exact e3
  ·rintro _ ⟨⟩;rw [hm];omega
theorem vP{s:Nat}{v:Value}{n:E}: ∀(cs:List Cut) (x:Value) (p:Part),kM ρ s v x n p→(∀b∈(sd n cs p).2,b.prop ρ)→kM ρ s v (c8 ρ s x cs) n (sd n cs p).1
 | [],_,_,h,_=>h
 | c::r,x,p,h,cb=>by
  simp only [sd]at cb ⊢;obtain⟨h1,h2⟩:=bu cb;exact vP r _ _ (h.step c h1).1 h2
theorem ll{md:Bool}{t s n:Nat}{v:Value}{cs:List Value}{S:Nat→Prop}(h:(aB md t s v n cs).p w S): ∃a c,v= .slice a n c∧n≤c:=by
 obtain⟨h0,_⟩:=h;cases md with
 | true=>
  simp only [if_true]at h0;rcases h0.2 with⟨rfl,rfl⟩ | ⟨g,o,cap,cur,rfl,_,Dv,_⟩
  ·exact⟨_,_,rfl,Nat.le_refl _⟩
  ·exact⟨_,_,rfl,Dv⟩
 | false=>
  simp only [Bool.false_eq_true,if_false]at h0;obtain⟨_,a,m,c',rfl,rfl,Q_,_⟩:=h0;exact⟨_,_,rfl,Q_⟩
theorem eM{x:SV}{r:Rt}(h:gf hp x=some r)(cU:Reads hp ρ w S [r.j])(cb: ∀b∈r.vcs,b.prop ρ):
  hp[r.j]? =some (.cc r.md r.v r.t r.s r.n r.aA)∧kM ρ r.s (ρ.vv.getD r.v V1.nil).v (x.val ρ) r.n r.p:=by
 unfold gf at h;split at h
 ·rename_i v;split at h
  ·rename_i j md v' t s n aA hf;cases h;obtain⟨hj,dM⟩:=cX hf;simp only [Ck.mI,beq_iff_eq]at dM;subst dM;have hS:=cU j (by simp) _ hj;exact⟨hj,kM.whole (ll hS)⟩
  ·cases h
 ·rename_i v cs s';split at h
  ·rename_i j md v' t s n aA hf;split at h
   ·rename_i hs;subst hs;cases h;obtain⟨hj,dM⟩:=cX hf;simp only [Ck.mI,beq_iff_eq]at dM;subst dM;have hS:=cU j (by simp) _ hj;exact⟨hj,vP cs _ _ (kM.whole (ll hS)) cb⟩
   ·cases h
  ·cases h
 ·cases h
end
def fC:Option Value→Option Int→Prop
 | none,none=>True
 | some v,some i=> ∃k,v= .int k i
 | _,_=>False
section
variable {P:Program} {ρ:Env} {w:World} {look:Nat→Option SV} {bK:Operand→Value} {hp:List Ck} {S:Nat→Nat→Prop} {nb nv:Nat} {T:List TI}
theorem iL(tr:tj ρ look bK){o:Option Operand}{l:Option E}(h:yp look o=some l):fC (o.map bK) (l.map fun e:E=>e.den ρ 0):=by
 unfold yp at h;split at h
 ·cases h;exact True.intro
 ·split at h
  ·rename_i k e he;cases h;exact⟨k,eL tr he⟩
  ·cases h
theorem se(isS:Bool)(N C:Nat){lo hi mx:Option Value}{l h m:Option Int}(hl:fC lo l)(hh:fC hi h)(hm:fC mx m)(hx:m.isSome=true→h.isSome=true)
  (h0:0≤l.getD 0) (h1:l.getD 0≤h.getD (N:Int)) (h2: ∀x,m=some x→h.getD (N:Int)≤x∧x≤C) (h3:m=none→h.getD (N:Int)≤C):
  (aen isS N C lo hi mx).run P w= .ok ((l.getD 0).toNat,(h.getD (N:Int)).toNat,(m.map ag).getD C) w:=by
 have hb:=fun(k:IntKind) (i:Int) (y:Nat) (code:BoundsCode) (a:0≤i) (b:i≤y)=>run_sliceBound (P:=P) (w:=w) k i y code a b
 cases m with
 | none=>
  have h3:=h3 rfl;cases mx with
  | some v=>exact hm.elim
  | none=>
   cases h with
   | none=>
    cases hi with
    | some v=>exact hh.elim
    | none=>
     cases l with
     | none=>
      cases lo with
      | some v=>exact hl.elim
      | none=>simp [aen]
     | some l=>
      cases lo with
      | none=>exact hl.elim
      | some v=>
       obtain⟨k,rfl⟩:=hl;simp only [aes,Option.getD_none]at h0 h1;simp [aen,hb k l N _ h0 h1]
   | some h=>
    cases hi with
    | none=>exact hh.elim
    | some v=>
     obtain⟨kh,rfl⟩:=hh;simp only [aes]at h1 h3;have hhn:(h.toNat:Int)=h:=Int.toNat_of_nonneg (by omega);cases l with
     | none=>
      cases lo with
      | some v=>exact hl.elim
      | none=>
       simp only [Option.getD_none]at h1;simp [aen,hb kh h C _ h1 h3]
     | some l=>
      cases lo with
      | none=>exact hl.elim
      | some v=>
       obtain⟨k,rfl⟩:=hl;simp only [aes]at h0 h1;simp [aen,hb kh h C _ (by omega) h3,hb k l h.toNat _ h0 (by omega)]
 | some m=>
  obtain⟨g2,g3⟩:=h2 m rfl;cases mx with
  | none=>exact hm.elim
  | some v=>
   obtain⟨km,rfl⟩:=hm;cases h with
   | none=>simp at hx
   | some h=>
    cases hi with
    | none=>exact hh.elim
    | some v=>
     obtain⟨kh,rfl⟩:=hh;simp only [aes]at h1 g2;cases l with
     | none=>
      cases lo with
      | some v=>exact hl.elim
      | none=>
       simp only [Option.getD_none]at h1;simp [aen,hb km m C _ (by omega) g3,hb kh h m.toNat _ (by omega) (by omega)]
     | some l=>
      cases lo with
      | none=>exact hl.elim
      | some v=>
       obtain⟨k,rfl⟩:=hl;simp only [aes]at h0 h1;simp [aen,hb km m C _ (by omega) g3,hb kh h m.toNat _ (by omega) (by omega),hb k l h.toNat _ h0 (by omega)]
theorem oE(hT:bw P T=true){t:TypeId}{tt te:TI}(ht:aS T t=some tt){e:Nat}(hk:tt.k= .slice e)(gK:aS T e=some te)
  (a:Option Addr) (N C:Nat) {lo hi mx:Option Value} {l h m:Option Int} (hl:fC lo l) (hh:fC hi h) (hm:fC mx m) (hx:m.isSome=true→h.isSome=true)
  (h0:0≤l.getD 0) (h1:l.getD 0≤h.getD (N:Int)) (h2: ∀x,m=some x→h.getD (N:Int)≤x∧x≤C) (h3:m=none→h.getD (N:Int)≤C):
  (Instr.sliceAt t (.slice a N C) lo hi mx).run P w= .ok (bJ te.size (.slice a N C) (l.getD 0).toNat (h.getD (N:Int)).toNat (m.map ag)) w:=by
 obtain⟨rfl,sW⟩:=ay hT ht;obtain⟨rfl,cN⟩:=ay hT gK;have cT:=sW.kind;rw [hk]at cT;have hu:=bL cT;have:=se (P:=P) (w:=w) true N C hl hh hm hx h0 h1 h2 h3;simp [Instr.sliceAt,Instr.slice,run_underlying hu,this,cN.sizeOf w,bJ]
theorem Ag(hT:bw P T=true){t:TypeId}{tt te:TI}(ht:aS T t=some tt){n e:Nat}(hk:tt.k= .arr n e)(gK:aS T e=some te)
  (a:Addr) {lo hi mx:Option Value} {l h m:Option Int} (hl:fC lo l) (hh:fC hi h) (hm:fC mx m) (hx:m.isSome=true→h.isSome=true)
  (h0:0≤l.getD 0) (h1:l.getD 0≤h.getD (n:Int)) (h2: ∀x,m=some x→h.getD (n:Int)≤x∧x≤n) (h3:m=none→h.getD (n:Int)≤n):
  (Instr.sliceAt t (.pointer (some a)) lo hi mx).run P w= .ok (bJ te.size (.slice (some a) n n) (l.getD 0).toNat (h.getD (n:Int)).toNat (m.map ag)) w:=by
 obtain⟨rfl,sW⟩:=ay hT ht;obtain⟨rfl,cN⟩:=ay hT gK;have cT:=sW.kind;rw [hk]at cT;have hu:=nS cT;have:=se (P:=P) (w:=w) false n n hl hh hm hx h0 h1 h2 h3;simp only [Instr.sliceAt,adV,run_underlying hu,adR,Instr.sureAddr,aeb,this,cN.sizeOf w,bJ];congr 2;split<;>simp
theorem Ib(b i0 n0 m0 s:Nat)(l h:Int)(m:Int)(h0:0≤l)(h1:l≤h)(h2:h≤m)(h3:l=0∨l<m):
  bJ s (.slice (some ⟨b,i0*s,none⟩) n0 m0) l.toNat h.toNat (some m.toNat)= .slice (some ⟨b,(i0+l.toNat)*s,none⟩) (h - l).toNat (m - l).toNat:=by
 simp only [bJ,aes];congr 1
 ·rcases h3 with rfl | h3
  ·simp [jX]
  ·rw [if_neg (by omega),Option.map_some,gT,Nat.add_mul]
 ·omega
 ·omega
theorem pX(o:Option E)(d:E):(o.getD d).den ρ 0=(o.map fun e:E=>e.den ρ 0).getD (d.den ρ 0):=by cases o<;>rfl
theorem BQ{x v:SV}{c:Cut}{s:Nat}(h:yq x c s=some v):
  v.val ρ=bJ s (x.val ρ) (c.lo.den ρ 0).toNat (c.hi.den ρ 0).toNat (c.mx.map fun m=>(m.den ρ 0).toNat):=by
 unfold yq at h;split at h
 ·cases h;rfl
 ·split at h
  ·rename_i hs;subst hs;cases h;simp only [SV.val,nG];rfl
  ·cases h
 ·cases h
theorem Mh{l mm:E}(h: ∀b∈(if l= .lit 0 then []else [Gh l mm].filter fun b=>b != .lit true),b.prop ρ):l.den ρ 0=0∨l.den ρ 0<mm.den ρ 0:=by
 split at h
 ·rename_i hl;subst hl;exact .inl rfl
 ·exact .inr (wL h)
theorem yr(hT:bw P T=true){t:TypeId}{tt:TI}(fk:aS T t=some tt){x:SV}{l h m:Option E}{res:gU}(hs:yu T hp tt.k x l h m=some res)
  {lo hi mx:Option Value} (hl:fC lo (l.map fun e:E=>e.den ρ 0)) (hh:fC hi (h.map fun e:E=>e.den ρ 0)) (hm:fC mx (m.map fun e:E=>e.den ρ 0))
  (cU:Reads hp ρ w S res.rd) (cb: ∀b∈res.vcs,b.prop ρ):
  (Instr.sliceAt t (x.val ρ) lo hi mx).run P w= .ok (res.val.val ρ) w∧res.gJ= .none:=by
 unfold yu at hs;split at hs
 ·cases hs
 ·rename_i UQ;have hx:(m.map fun e:E=>e.den ρ 0).isSome=true→(h.map fun e:E=>e.den ρ 0).isSome=true:=by
   cases m<;>cases h<;>simp_all
  split at hs
  ·rename_i e b i s n cap hk;split at hs
   ·rename_i te gK;split at hs
    ·rename_i eV;subst eV;simp only [adK]at hs;subst hs;refine⟨?_,rfl⟩;simp only at cb;obtain⟨cb,q6⟩:=bu cb;obtain⟨cb,q5⟩:=bu cb;obtain⟨cb,q4⟩:=bu cb;obtain⟨cb,q3⟩:=bu cb;obtain⟨cb,q2⟩:=bu cb;obtain⟨q0,q1⟩:=bu cb;have q0:=bc q0;have q1:=bc q1;have q2:=bc q2;have q3:=bc q3;have q4:=bc q4;have q5:=bc q5;have q6:=Mh q6;simp only [pX,E.den]at q0 q1 q2 q3 q4 q5 q6;have e1:(SV.sl b i te.size n cap).val ρ= .slice (some ⟨ρ.bv.getD b 0,(i.den ρ 0).toNat*te.size,none⟩) (n.den ρ 0).toNat (cap.den ρ 0).toNat:=rfl;have Xf:((n.den ρ 0).toNat:Int)=n.den ρ 0:=Int.toNat_of_nonneg q5;have hZ:=oE (P:=P) (w:=w) hT fk hk gK (some ⟨ρ.bv.getD b 0,(i.den ρ 0).toNat*te.size,none⟩) (n.den ρ 0).toNat (cap.den ρ 0).toNat hl hh hm hx q1 (by rw [Xf];exact q2)
      (fun x hx=>by rw [hx]at q3 q4;rw [Xf];simp only [aes]at q3 q4;exact⟨q3,by omega⟩) (fun hx=>by rw [hx]at q3;rw [Xf];simp only [Option.getD_none]at q3;omega)
     rw [e1,hZ,Xf];congr 1;have Ss:bJ te.size (.slice (some ⟨ρ.bv.getD b 0,(i.den ρ 0).toNat*te.size,none⟩) (n.den ρ 0).toNat (cap.den ρ 0).toNat) ((l.map fun e:E=>e.den ρ 0).getD 0).toNat
       ((h.map fun e:E=>e.den ρ 0).getD (n.den ρ 0)).toNat ((m.map fun e:E=>e.den ρ 0).map ag)=
       bJ te.size (.slice (some ⟨ρ.bv.getD b 0,(i.den ρ 0).toNat*te.size,none⟩) (n.den ρ 0).toNat (cap.den ρ 0).toNat) ((l.map fun e:E=>e.den ρ 0).getD 0).toNat
       ((h.map fun e:E=>e.den ρ 0).getD (n.den ρ 0)).toNat (some ((m.map fun e:E=>e.den ρ 0).getD (cap.den ρ 0)).toNat):=by
      cases m<;>rfl
     rw [Ss,Ib _ _ _ _ _ _ _ _ q1 q2 q3 q6];simp only [SV.val,bH,eE,pX,E.den];congr 4;omega
    ·cases hs
   ·cases hs
  ·rename_i e hk;split at hs
   ·rename_i te gK;split at hs
    ·rename_i hz;cases hs;obtain⟨z1,z2,z3⟩:=hz;refine⟨?_,rfl⟩;have g1:(l.map fun e:E=>e.den ρ 0).getD 0=0:=by cases l with | none=>rfl | some l=>simp only [aes]at z1;subst z1;rfl
     have g2:(h.map fun e:E=>e.den ρ 0).getD 0=0:=by cases h with | none=>rfl | some l=>simp only [aes]at z2;subst z2;rfl
     have g3:(m.map fun e:E=>e.den ρ 0).getD 0=0:=by cases m with | none=>rfl | some l=>simp only [aes]at z3;subst z3;rfl
     have hZ:=oE (P:=P) (w:=w) hT fk hk gK none 0 0 hl hh hm hx (by rw [g1];exact Int.le_refl _) (by rw [g1];simp only [Int.natCast_zero,g2];exact Int.le_refl _)
      (fun x hx=>by rw [hx]at g3;simp only [aes]at g3;subst g3;simp only [Int.natCast_zero,g2];exact⟨Int.le_refl _,Int.le_refl _⟩) (fun _=>by simp only [Int.natCast_zero,g2];exact Int.le_refl _)
     rw [show(SV.bT).val ρ= .slice none 0 0 from rfl,hZ];congr 1;simp only [g1,Int.natCast_zero,g2];cases m with
     | none=>simp [bJ]
     | some m=>simp only [Option.map_some,aes]at g3;simp [bJ,g3]
    ·cases hs
   ·cases hs
  ·rename_i e hk _ _;split at hs
   ·rename_i te r gK hr;split at hs
    ·rename_i eV;dsimp only at hs;split at hs
     ·rename_i v hv;cases hs;refine⟨?_,rfl⟩;simp only at cb;obtain⟨vO,FK⟩:=bu cb;obtain⟨hj,dL⟩:=eM hr cU vO;obtain⟨h1,h2,h3,h4,a,N,C,Gu,hN,hC,hCm⟩:=dL.step _ FK;rw [BQ hv,Gu];simp only [pX,E.den]at h2 h3 h4 hC ⊢;have Ub:(h.map fun e:E=>e.den ρ 0).getD (r.p.len.den ρ 0)=(h.map fun e:E=>e.den ρ 0).getD (N:Int)∨(h=none∧r.p.len.den ρ 0≤N):=by
       cases h with
       | none=>right;exact⟨rfl,by omega⟩
       | some h=>left;rfl
      have Ub:(h.map fun e:E=>e.den ρ 0).getD (N:Int)=(h.map fun e:E=>e.den ρ 0).getD (r.p.len.den ρ 0):=by
       rcases Ub with h | ⟨rfl,hle⟩
       ·exact h.symm
       ·simp only [Option.map_none,Option.getD_none]at h3 ⊢;omega
      have hZ:=oE (P:=P) (w:=w) hT fk hk gK a N C hl hh hm hx h2 (by rw [Ub];exact h3)
       (fun x hx=>by
        rw [Ub];rw [adM]at hx;obtain⟨me,X9,rfl⟩:=hx;have:=h4 me X9;have:=hCm me X9;exact⟨h4 me X9,by omega⟩)
       (fun hx=>by
        rw [Ub];have:=hC (by simpa using hx);omega)
      rw [hZ,Ub,eV];congr 2;cases m<;>rfl
     ·cases hs
    ·cases hs
   ·cases hs
  ·rename_i n e b c hk;split at hs
   ·rename_i te gK;split at hs
    ·rename_i eV;obtain⟨eV,X_⟩:=eV;simp only [adK]at hs;subst hs;refine⟨?_,rfl⟩;simp only at cb;obtain⟨cb,q6⟩:=bu cb;obtain⟨cb,q4⟩:=bu cb;obtain⟨cb,q3⟩:=bu cb;obtain⟨q1,q2⟩:=bu cb;have q1:=bc q1;have q2:=bc q2;have q3:=bc q3;have q4:=bc q4;have q6:=Mh q6;simp only [pX,E.den]at q1 q2 q3 q4 q6;have hc:c=c/te.size*te.size:=by
      have:=Nat.div_add_mod c te.size;rw [X_,Nat.add_zero,Nat.mul_comm]at this;exact this.symm
     have e1:(SV.ptr b c).val ρ= .pointer (some ⟨ρ.bv.getD b 0,c/te.size*te.size,none⟩):=by
      rw [←hc];rfl
     have hZ:=Ag (P:=P) (w:=w) hT fk hk gK ⟨ρ.bv.getD b 0,c/te.size*te.size,none⟩ hl hh hm hx q1 q2
      (fun x hx=>by rw [hx]at q3 q4;simp only [aes]at q3 q4;exact⟨q3,q4⟩) (fun hx=>by rw [hx]at q3;simp only [Option.getD_none]at q3;exact q3)
     rw [e1,hZ];congr 1;have Ss:bJ te.size (.slice (some ⟨ρ.bv.getD b 0,c/te.size*te.size,none⟩) n n) ((l.map fun e:E=>e.den ρ 0).getD 0).toNat
       ((h.map fun e:E=>e.den ρ 0).getD (n:Int)).toNat ((m.map fun e:E=>e.den ρ 0).map ag)=
       bJ te.size (.slice (some ⟨ρ.bv.getD b 0,c/te.size*te.size,none⟩) n n) ((l.map fun e:E=>e.den ρ 0).getD 0).toNat
       ((h.map fun e:E=>e.den ρ 0).getD (n:Int)).toNat (some ((m.map fun e:E=>e.den ρ 0).getD (n:Int)).toNat):=by
      cases m<;>simp [bJ]
     rw [Ss,Ib _ _ _ _ _ _ _ _ q1 q2 q3 q6];simp only [SV.val,bH,eE,pX,E.den];congr 4;generalize c/te.size=q;omega
    ·cases hs
   ·cases hs
  ·cases hs
end
end Go.RX
