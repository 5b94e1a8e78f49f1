/- Executor. -/
import Derived.Test.YtmgbbbmdbpbeeaaM06
open Go.Builtin renaming append_ → ad2
open Go.Result renaming andThen_ok → adC
open Go.Sem renaming run_bind → adL, run_pure → ad_
open Int renaming toNat → ag
open List renaming eq_nil_of_length_eq_zero → adR, mem_filter → adU, mem_range → adZ
open Option renaming getD_some → aee, map_eq_some_iff → adw
open Option.some renaming injEq → adv
open Prod.mk renaming injEq → ad9
namespace Go.RX
section
variable {P:Program} {ρ:Env} {w:World} {look:Nat→Option SV} {vals:Operand→Value} {hp:List Ck} {S:Nat→Nat→Prop} {nb nv:Nat} {T:List TI}
theorem cl{i:E}{n:Nat}(h:eA i=some n):i.den ρ 0=n:=by
 unfold eA at h;split at h
 ·cases h;rfl
 ·cases h
theorem tG(b:Nat)(i:E)(s c:Nat):(D3 b i s c).val ρ= .pointer (some ⟨ρ.bv.getD b 0,(i.den ρ 0).toNat*s+c,none⟩):=by
 unfold D3;split
 ·rename_i n hn;simp [SV.val,cl hn]
 ·rfl
theorem r_(hT:bC P T=true){s:TypeId}{ts ti:TI}(hs:aU T s=some ts){fs:List (Nat×Nat)}(hk:ts.k= .struct fs){f t off:Nat}
  (hf:fs[f]? =some (t,off)) (ht:aU T t=some ti) (eL: ¬ti.size=0) (a:Addr):
  (Instr.fieldAt s (.pointer (some a)) f).run P w= .ok (.pointer (some (a.add off))) w:=by
 obtain⟨rfl,rI⟩:=aG hT hs;obtain⟨rfl,cF⟩:=aG hT ht;have cL:=rI.kind;rw [hk]at cL;obtain⟨fa,hu,O4⟩:=lL cL;subst O4;rw [List.getElem?_map,adw]at hf;obtain⟨fd,QX,he⟩:=hf;rw [Array.getElem?_toList]at QX;simp only [ad9]at he;have h1:(Go.sizeOf fd.type).run P w= .ok ti.size w:=by rw [he.1];exact cF.sizeOf w
 simp [Instr.fieldAt,run_underlying hu,QX,Instr.sureAddr,fieldPlace,h1,eL,he.2]
theorem vS(hT:bC P T=true){s:TypeId}{ts ti:TI}(hs:aU T s=some ts){fs:List (Nat×Nat)}(hk:ts.k= .struct fs){f t off:Nat}
  (hf:fs[f]? =some (t,off)) (ht:aU T t=some ti) {cs x:List SV} {v:SV} (hx:iP off ti.size cs=some x) (hv:hJ ti.k.agg x=some v):
  (Instr.field s (.agg (SV.aB ρ cs).toArray) f).run P w= .ok (v.val ρ) w:=by
 obtain⟨rfl,rI⟩:=aG hT hs;obtain⟨rfl,cF⟩:=aG hT ht;have cL:=rI.kind;rw [hk]at cL;obtain⟨fa,hu,O4⟩:=lL cL;subst O4;rw [List.getElem?_map,adw]at hf;obtain⟨fd,QX,he⟩:=hf;rw [Array.getElem?_toList]at QX;simp only [ad9]at he;have h1:=xJ (ρ:=ρ) (w:=w) cF hx hv;rw [←he.1,←he.2]at h1;simp [Instr.field,run_underlying hu,QX,asAgg,h1]
theorem o9(hT:bC P T=true){t:TypeId}{tt te:TI}(ht:aU T t=some tt){e:Nat}(hk:tt.k= .slice e)(gi:aU T e=some te)
  (a:Addr) (n c:Nat) (k:IntKind) (j:Int) (h0:0≤j) (h1:j<n):
  (Instr.indexAt t (.slice (some a) n c) (.int k j)).run P w= .ok (.pointer (some (a.add (j.toNat*te.size)))) w:=by
 obtain⟨rfl,rI⟩:=aG hT ht;obtain⟨rfl,cF⟩:=aG hT gi;have cL:=rI.kind;rw [hk]at cL;have hu:=bI cL;simp [Instr.indexAt,run_underlying hu,asIntOf,h0,h1,cF.sizeOf w]
theorem xK(hT:bC P T=true){t:TypeId}{tt te:TI}(ht:aU T t=some tt){n e:Nat}(hk:tt.k= .arr n e)(gi:aU T e=some te)
  (a:Addr) (k:IntKind) (j:Int) (h0:0≤j) (h1:j<n):
  (Instr.indexAt t (.pointer (some a)) (.int k j)).run P w= .ok (.pointer (some (a.add (j.toNat*te.size)))) w:=by
 obtain⟨rfl,rI⟩:=aG hT ht;obtain⟨rfl,cF⟩:=aG hT gi;have cL:=rI.kind;rw [hk]at cL;have hu:=mY cL;simp [Instr.indexAt,run_underlying hu,asIntOf,Instr.sureAddr,h0,h1,cF.sizeOf w]
theorem sd(hT:bC P T=true){t:TypeId}{tt te:TI}(ht:aU T t=some tt){n e:Nat}(hk:tt.k= .arr n e)(gi:aU T e=some te)
  (cs:Array Value) (k:IntKind) (j:Int) (h0:0≤j) (h1:j<n) {v:Value} (hp:(part te.t cs (j.toNat*te.size)).run P w= .ok v w):
  (Instr.index t (.agg cs) (.int k j)).run P w= .ok v w:=by
 obtain⟨rfl,rI⟩:=aG hT ht;obtain⟨rfl,cF⟩:=aG hT gi;have cL:=rI.kind;rw [hk]at cL;have hu:=mY cL;simp [Instr.index,run_underlying hu,asIntOf,h0,h1,cF.sizeOf w,hp]
theorem nK(hT:bC P T=true){t:TypeId}{tt:TI}(ht:aU T t=some tt){e:Nat}(hk:tt.k= .slice e)(a:Option Addr)(n c:Nat)(ty:TypeId):
  (Builtin.len_ #[t] ty #[.slice a n c]).run P w= .ok (goInt n) w:=by
 obtain⟨rfl,rI⟩:=aG hT ht;have cL:=rI.kind;rw [hk]at cL;have hu:=bI cL;simp [Builtin.len_,run_underlying hu]
theorem xL(hT:bC P T=true){t:TypeId}{tt:TI}(ht:aU T t=some tt)(hk:tt.k= .str)(s:ByteArray)(ty:TypeId):
  (Builtin.len_ #[t] ty #[.string s]).run P w= .ok (goInt s.size) w:=by
 obtain⟨rfl,rI⟩:=aG hT ht;have cL:=rI.kind;rw [hk]at cL;have hu:P.underlying tt.t=some .string:=by
  unfold gu at cL;split at cL<;>simp_all
 simp [Builtin.len_,run_underlying hu]
theorem D4(aH:List bS)(n:Nat):aN ρ (n+1) aH=aN ρ n aH++rowAt ρ aH n:=by
 unfold aN aK rowAt;rw [List.range_succ,List.flatMap_append];simp
theorem JC(c1 c2:List bS)(n:Nat)(h: ∀i,i<n→rowAt ρ c1 i=rowAt ρ c2 i):aN ρ n c1=aN ρ n c2:=by
 unfold aN aK;unfold rowAt at h;rw [List.flatMap_def,List.flatMap_def];congr 1;exact List.map_congr_left fun i hi=>h i (adZ.1 hi)
theorem om(t ty e:TypeId)(i:TypeInfo)(z:Value)(size bytes:Nat)(ht:P.underlying t=some (.slice e))(hi:P.info? e=some i)(hz:i.zero=some z)
  (iL:i.size=size) (s9:i.bytes=bytes) (oK:z.cells.size=size)
  (b:Addr) (n:Nat) (xs:List Value) (Ge:xs.length=n*size) (holds: ∀j u,xs[j]? =some u→w.cell? (b.add j)=some u)
  (a:Addr) (m c:Nat) (hm:0<m) (news:List Value) (hl:news.length=m*size) (D5: ∀j u,news[j]? =some u→w.cell? (a.add j)=some u)
  (N6:n+m≤maxLen) (nL:(n+m)*bytes≤140737488355328):
  ∃v' w',(ad2 #[t,t] ty #[.slice (some b) n n,.slice (some a) m c]).run P w= .ok v' w'∧w'.gN e size v' (n+m) (xs++news)∧w.grownBy w' none∧v'.ownBlock=some w.heap.size:=by
 subst iL;subst s9;have hlen:(xs++news).length=(n+m)*i.size:=by rw [List.length_append,Ge,hl,Nat.add_mul]
 have ig:=grownCap_ge w (n+m) n e;have LH:grownCap w (n+m) n e≤maxLen:=grownCap_le_maxLen w (n+m) n e N6;have hr:=run_append_grow (P:=P) w t ty e i z ht hi hz b n n xs Ge holds a m c news hl D5 (by omega) (by simp only [maxLen]at N6;omega) (growslice_fits (by omega) nL);refine⟨_,_,hr,⟨hlen,.inr ⟨w.heap.size,0,_,_,rfl,⟨e,_,heap_alloc_new w.drew _,.zero _⟩,ig,LH,?_,?_⟩⟩,⟨rfl,rfl,rfl,by simp,fun k hk _=>heap_alloc_old w.drew _ hk⟩,rfl⟩
 ·simp only [Array.size_append,List.size_toArray,size_zeroCells,oK,Ge,hl,←Nat.add_mul,Nat.zero_add];intro _;apply Nat.le_of_eq;congr 1;omega
 ·simp only [Array.toList_append,List.drop_zero]
  first
   | (rw [←hlen];exact List.take_left)
   | (rw [List.append_assoc,←List.append_assoc,←hlen];exact List.take_left)
theorem mj(t ty e:TypeId)(i:TypeInfo)(z:Value)(size bytes:Nat)(ht:P.underlying t=some (.slice e))(hi:P.info? e=some i)(hz:i.zero=some z)
  (iL:i.size=size) (s9:i.bytes=bytes) (oK:z.cells.size=size) (eL:0<size)
  (v:Value) (n:Nat) (xs:List Value) (cr:w.gN e size v n xs)
  (a:Addr) (m c:Nat) (news:List Value) (hl:news.length=m*size) (D5: ∀j u,news[j]? =some u→w.cell? (a.add j)=some u) (h1: ∀u∈news,u.oneCell'=true)
  (N6:n+m≤maxLen) (nL:(n+m)*bytes≤140737488355328):
  ∃v' w',(ad2 #[t,t] ty #[v,.slice (some a) m c]).run P w= .ok v' w'∧w'.gN e size v' (n+m) (xs++news)∧w.grownBy w' v.ownBlock∧
   (v'.ownBlock=v.ownBlock∨v'.ownBlock=some w.heap.size):=by
 rcases cr.2 with⟨rfl,rfl⟩ | ⟨g,o,cap,cur,rfl,⟨t',fz,hg,Gf⟩,CZ,NZ,mG,C7⟩
 ·have hx:xs=[]:=adR (by simpa using cr.1);subst hx;obtain⟨v',w',r1,r2,r3,_,r5⟩:=run_append_own_at (P:=P) w 0 t ty e i z size bytes ht hi hz iL s9 oK eL (.slice none 0 0) 0 [] (World.ownsRow_nil w 0 e size) a m c news hl D5 h1 N6 nL (Nat.zero_le _);exact⟨v',w',r1,Jk r2,r3,r5⟩
 ·subst iL;subst s9;have hlen:(xs++news).length=(n+m)*i.size:=by rw [List.length_append,cr.1,hl,Nat.add_mul]
  by_cases o_:n+m≤cap
  ·by_cases JD:m=0
   ·subst JD;have:news=[]:=adR (by simpa using hl);subst this;refine⟨_,w,?_,by simpa using cr,⟨rfl,rfl,rfl,Nat.le_refl _,fun _ _ _=>rfl⟩,.inl rfl⟩;simp [ad2,run_underlying ht,sizeOf,typeInfo,hi,Builtin.lenOf,Builtin.firstCells,CZ,storeCells,loadCells,loadCellsFrom]
   have mG:=mG (by omega);have hmul:(n+m)*i.size≤cap*i.size:=Nat.mul_le_mul_right _ o_;rw [Nat.add_mul]at hmul;have q9:o+n*i.size+news.length≤cur.size:=by omega
   have hfc:=run_firstCells_some (P:=P) w i.size m a m c news hl D5;have zi:=dZ (P:=P) g (o+n*i.size) t' fz news 0 cur w hg Gf (by simpa using q9) h1;simp only [Nat.add_zero]at zi;have hr:(ad2 #[t,t] ty #[.slice (some ⟨g,o,none⟩) n cap,.slice (some a) m c]).run P w= .ok (.slice (some ⟨g,o,none⟩) (n+m) cap) (w.setRow g (cur.toList.take (o+n*i.size)++news++cur.toList.drop (o+n*i.size+news.length)).toArray):=by
    simp [ad2,run_underlying ht,sizeOf,typeInfo,hi,Builtin.lenOf,o_,hfc,dV,zi]
   refine⟨_,_,hr,⟨hlen,.inr ⟨g,o,cap,_,rfl,⟨t',fz,setRow_heap w g cur _ t' _ hg,by refine Eq.mp (congrArg (qz · fz) ?_) Gf;simp only [List.size_toArray,List.length_append,List.length_take,List.length_drop,Array.length_toList]at q9 ⊢;omega⟩,o_,NZ,?_,?_⟩⟩,⟨rfl,rfl,rfl,by simp,fun k _ hk=>setRow_other w g k _ (fun e=>hk (by simp [Value.ownBlock,e]))⟩,Or.inl rfl⟩
   ·simp only [List.size_toArray,List.length_append,List.length_take,List.length_drop,Array.length_toList];intro _;omega
   ·have:=o3 cur.toList news o (n*i.size) ((n+m)*i.size) (by rw [Nat.add_mul];omega) (by rw [Nat.add_mul];simp;omega);simp only;rw [this,List.take_take,Nat.min_eq_left (by rw [Nat.add_mul];omega),C7,hl,←Nat.add_mul,List.drop_eq_nil_of_le (by rw [List.length_take];exact Nat.min_le_left _ _),List.append_nil]
  ·have ig:=grownCap_ge w (n+m) cap e;have LH:grownCap w (n+m) cap e≤maxLen:=grownCap_le_maxLen w (n+m) cap e N6;have hr:=run_append_grow (P:=P) w t ty e i z ht hi hz ⟨g,o,none⟩ n cap xs cr.1 (iM cr) a m c news hl D5 (by omega) (by simp only [maxLen]at N6;omega) (growslice_fits (by omega) nL);refine⟨_,_,hr,⟨hlen,.inr ⟨w.heap.size,0,_,_,rfl,⟨e,_,heap_alloc_new w.drew _,.zero _⟩,ig,LH,?_,?_⟩⟩,⟨rfl,rfl,rfl,by simp,fun k hk _=>heap_alloc_old w.drew _ hk⟩,Or.inr rfl⟩
   ·simp only [Array.size_append,List.size_toArray,size_zeroCells,oK,cr.1,hl,←Nat.add_mul,Nat.zero_add];intro _;apply Nat.le_of_eq;congr 1;omega
   ·simp only [Array.toList_append,List.drop_zero]
    first
     | (rw [←hlen];exact List.take_left)
     | (rw [List.append_assoc,←List.append_assoc,←hlen];exact List.take_left)
theorem BL(hT:bC P T=true)(nr:ρ.Ok){ts:TypeId}{tt te:TI}(ht:aU T ts=some tt){e:Nat}(hk:tt.k= .slice e)(gi:aU T e=some te){s:Nat}(hs:te.size=s)(BM:0<s)
  {v j j' b cap:Nat} {n:E} {aH aT:List bS} {cs:List SV} {wr:Bool} (hj:hp[j]? =some (.bu true v e s n aH)) (hS:((Ck.bu true v e s n aH).den ρ).p w (S j))
  (_:hp[j']? =some (.row b wr cs)) (LI:((Ck.row b wr cs).den ρ).p w (S j')) (hw:s=bT aH) (hlen:jz cs=s) (iF:cs.all SV.one=true) (o5:kA n cs aH=some aT)
  (h0:0≤n.den ρ 0) (Gp:(n.den ρ 0+1)*(max 1 te.bytes:Nat)≤140737488355328) (ty:TypeId):
  Did P ρ w hp S nb nv ((do pure (.value (←ad2 #[ts,ts] ty #[(SV.vv v).val ρ,.slice (some ⟨ρ.bv.getD b 0,0,none⟩) 1 cap])):Sem Next).run P w)
   {val:= .vv nv,gg:= .app j (.bu true nv e s (dp n (.lit 1)) aT)}:=by
 obtain⟨rfl,eN⟩:=aG hT ht;obtain⟨rfl,cF⟩:=aG hT gi;have cL:=eN.kind;rw [hk]at cL;have hu:=bI cL;obtain⟨i,hi,eL,s9,z,hz,hc⟩:=cF.info;have oK:z.cells.size=te.size:=by rw [←Array.length_toList,←hc ρ,bz,cF.zt]
 obtain⟨cr,kf⟩:=hS;simp only [if_true]at cr;have Zk:((n.den ρ 0).toNat+1)*(max 1 te.bytes)≤140737488355328:=by
  have:(((n.den ρ 0).toNat+1:Nat):Int)=n.den ρ 0+1:=by omega
  rw [←this]at Gp;have h2:((((n.den ρ 0).toNat+1)*(max 1 te.bytes):Nat):Int)≤((140737488355328:Nat):Int):=by rw [Int.natCast_mul];exact Gp
  exact Int.ofNat_le.1 h2
 have BN:((n.den ρ 0).toNat+1)*1≤((n.den ρ 0).toNat+1)*max 1 te.bytes:=Nat.mul_le_mul_left _ (Nat.le_max_left _ _);have C_:((n.den ρ 0).toNat+1)*te.bytes≤((n.den ρ 0).toNat+1)*max 1 te.bytes:=Nat.mul_le_mul_left _ (Nat.le_max_right _ _);obtain⟨v',w',hr,how,hg,KO⟩:=mj (P:=P) (w:=w) tt.t ty te.t i z s te.bytes hu hi hz (by rw [eL,hs]) s9 (by rw [oK,hs]) BM
  _ _ _ cr ⟨ρ.bv.getD b 0,0,none⟩ 1 cap (SV.aB ρ cs) (by rw [bz,Nat.one_mul];exact hlen)
  (fun k u hk=>hU LI 0 k u hk) (kW ρ iF nr) (Nat.le_trans (show(n.den ρ 0).toNat+1≤140737488355328 by omega) (by unfold maxLen;omega)) (by omega)
 have eO:aN ρ ((dp n (.lit 1)).den ρ 0).toNat aT=aN ρ (n.den ρ 0).toNat aH++SV.aB ρ cs:=by
  have e1:((dp n (.lit 1)).den ρ 0).toNat=(n.den ρ 0).toNat+1:=by
   rw [bH];simp only [E.den];omega
  obtain⟨p1,p2,p3,p4⟩:=iQ ρ o5;rw [e1,D4,p4,JC aT aH _ (fun k hk=>p3 k (by omega))];congr 1;rw [List.drop_eq_nil_of_le,List.append_nil];rw [show(rowAt ρ aH (n.den ρ 0).toNat).length=bT aH from cY ρ aH _,bz,←hw];exact Nat.le_of_eq hlen.symm
 refine⟨te.t,s,_,aT,v',w',fun k=>v'.ownBlock=some k,rfl,rfl,by simp only [SV.val,adL,hr,adC,ad_],?_,⟨_,hj,rfl⟩,?_,?_,⟨?_,fun k=>⟨fun h=>⟨h,.inl rfl⟩,fun h=>h.1⟩⟩,?_⟩
 ·rcases how.2 with⟨rfl,_⟩ | ⟨g,o,cap,cur,rfl,_⟩<;>rfl
 ·exact⟨hg.os,hg.tape,hg.output,hg.size⟩
 ·intro k hk hn;refine hg.block k hk fun he=>hn ((kf k).2 ⟨he.symm,.inl rfl⟩)
 ·simp only [if_true];have e1:((dp n (.lit 1)).den ρ 0).toNat=(n.den ρ 0).toNat+1:=by
   rw [bH];simp only [E.den];omega
  rw [eO,e1];exact how
 ·intro k hk;rcases KO with h | h
  ·left;rw [kf k,←h];exact⟨hk,.inl rfl⟩
  ·right;rw [hk]at h;cases h;exact⟨Nat.le_refl _,gn how hk⟩
theorem tH(hT:bC P T=true)(nr:ρ.Ok){ts:TypeId}{tt te:TI}(ht:aU T ts=some tt){e:Nat}(hk:tt.k= .slice e)(gi:aU T e=some te){s:Nat}(hs:te.size=s)(BM:0<s)
  {j' b cap:Nat} {aH aT:List bS} {cs:List SV} {wr:Bool}
  (LI:((Ck.row b wr cs).den ρ).p w (S j')) (hw:s=bT aH) (hlen:jz cs=s) (iF:cs.all SV.one=true) (o5:kA (.lit 0) cs aH=some aT)
  (Gp:te.bytes≤140737488355328) (ty:TypeId):
  Did P ρ w hp S nb nv ((do pure (.value (←ad2 #[ts,ts] ty #[SV.cC.val ρ,.slice (some ⟨ρ.bv.getD b 0,0,none⟩) 1 cap])):Sem Next).run P w)
   {val:= .vv nv,gg:= .own (.bu true nv e s (.lit 1) aT)}:=by
 obtain⟨rfl,eN⟩:=aG hT ht;obtain⟨rfl,cF⟩:=aG hT gi;have cL:=eN.kind;rw [hk]at cL;have hu:=bI cL;obtain⟨i,hi,eL,s9,z,hz,hc⟩:=cF.info;have oK:z.cells.size=te.size:=by rw [←Array.length_toList,←hc ρ,bz,cF.zt]
 obtain⟨v',w',hr,how,hg,KO⟩:=mj (P:=P) (w:=w) tt.t ty te.t i z s te.bytes hu hi hz (by rw [eL,hs]) s9 (by rw [oK,hs]) BM
  (.slice none 0 0) 0 [] (js w te.t s) ⟨ρ.bv.getD b 0,0,none⟩ 1 cap (SV.aB ρ cs) (by rw [bz,Nat.one_mul];exact hlen)
  (fun k u hk=>hU LI 0 k u hk) (kW ρ iF nr) (by unfold maxLen;omega) (by omega)
 have eO:aN ρ 1 aT=SV.aB ρ cs:=by
  obtain⟨p1,p2,p3,p4⟩:=iQ ρ o5;have e0:aN ρ 1 aT=aN ρ 0 aT++rowAt ρ aT 0:=D4 aT 0;rw [e0];simp only [E.den,Int.toNat_zero]at p4;rw [p4,List.drop_eq_nil_of_le,List.append_nil]
  ·simp [aN,aK]
  ·rw [show(rowAt ρ aH 0).length=bT aH from cY ρ aH _,bz,←hw];exact Nat.le_of_eq hlen.symm
 refine⟨te.t,s,_,aT,v',w',fun k=>v'.ownBlock=some k,rfl,rfl,by simp only [SV.val,adL,hr,adC,ad_],?_,⟨hg.os,hg.tape,hg.output,hg.size⟩,fun k hk=>hg.block k hk (by simp [Value.ownBlock]),⟨?_,fun k=>⟨fun h=>⟨h,.inl rfl⟩,fun h=>h.1⟩⟩,?_⟩
 ·rcases how.2 with⟨rfl,_⟩ | ⟨g,o,cap,cur,rfl,_⟩<;>rfl
 ·simp only [if_true];have e1:((E.lit 1).den ρ 0).toNat=1:=rfl;rw [e1,eO];simpa using how
 ·intro k hk;rcases KO with h | h
  ·rw [hk]at h;cases h
  ·rw [hk]at h;cases h;exact⟨Nat.le_refl _,gn how hk⟩
end
section
variable {P:Program} {ρ:Env} {w:World} {look:Nat→Option SV} {vals:Operand→Value} {hp:List Ck} {S:Nat→Nat→Prop} {nb nv:Nat} {T:List TI}
theorem a_{a b:E}(h: ∀c∈dA a b,c.prop ρ):a.den ρ 0≤b.den ρ 0:=by
 unfold dA at h;split at h
 ·rename_i he;subst he;exact Int.le_refl _
 ·have key:(wo a b).den ρ=true:=by
   by_cases hl:wo a b= .lit true
   ·rw [hl];rfl
   ·exact(BE.bX ρ _).2 (h _ (adU.2 ⟨by simp,by simpa using hl⟩))
  rw [gp]at key;exact of_decide_eq_true key
theorem vT{a b:E}(h: ∀c∈[Gd a b].filter fun b=>b != .lit true,c.prop ρ):a.den ρ 0<b.den ρ 0:=by
 have key:(Gd a b).den ρ=true:=by
  by_cases hl:Gd a b= .lit true
  ·rw [hl];rfl
  ·exact(BE.bX ρ _).2 (h _ (adU.2 ⟨by simp,by simpa using hl⟩))
 rw [rW]at key;exact of_decide_eq_true key
theorem bB{α:Type}{q:α→Prop}{a b:List α}(h: ∀c∈a++b,q c):(∀c∈a,q c)∧∀c∈b,q c:=
 ⟨fun c hc=>h c (List.mem_append_left _ hc),fun c hc=>h c (List.mem_append_right _ hc)⟩
theorem jI(a:Addr):a.add 0=a:=by simp [Addr.add]
theorem BO(a:Option Addr):a.map (·.add 0)=a:=by cases a<;>simp [jI]
structure Uk (s:Nat) (v x:Value) (n L N:Int) (mx:Option Int):Prop where
 lo:0≤L
 hi:L+N≤n
 top: ∀m,mx=some m→L+N≤m∧m≤n
 is: ∃a c k,v= .slice a n.toNat c∧n.toNat≤c∧x= .slice (a.map (·.add k)) N.toNat ((mx.map ag).getD c - L.toNat)∧(L.toNat<(mx.map ag).getD c∨L=0→k=L.toNat*s)
abbrev Part.den(ρ:Env)(p:Part):Int×Int×Option Int:=(p.lo.den ρ 0,p.len.den ρ 0,p.mx.map fun m=>m.den ρ 0)
def k9(ρ:Env)(s:Nat)(v x:Value)(n:E)(p:Part):Prop:=Uk s v x (n.den ρ 0) (p.lo.den ρ 0) (p.len.den ρ 0) (p.mx.map fun m=>m.den ρ 0)
theorem k9.whole{s:Nat}{v:Value}{n:E}(h: ∃a c,v= .slice a (n.den ρ 0).toNat c∧(n.den ρ 0).toNat≤c):k9 ρ s v v n ⟨.lit 0,n,none⟩:=by
 obtain⟨a,c,hv,hc⟩:=h;refine⟨by simp [E.den],by simp [E.den],by simp,a,c,0,hv,hc,?_,?_⟩
 ·rw [BO];simpa [E.den] using hv
 ·simp [E.den]
theorem k9.step{s:Nat}{v x:Value}{n:E}{p:Part}(h:k9 ρ s v x n p)(c:Cut)(bV: ∀b∈(lM n p c).2,b.prop ρ):
  k9 ρ s v (aC s x (c.lo.den ρ 0).toNat (c.hi.den ρ 0).toNat (c.mx.map fun m=>(m.den ρ 0).toNat)) n (lM n p c).1∧
  0≤c.lo.den ρ 0∧c.lo.den ρ 0≤c.hi.den ρ 0∧(∀m,c.mx=some m→c.hi.den ρ 0≤m.den ρ 0)∧
  ∃a N C,x= .slice a N C∧N=(p.len.den ρ 0).toNat∧(c.mx=none→(c.hi.den ρ 0).toNat≤C)∧∀m,c.mx=some m→(m.den ρ 0).toNat≤C:=by
 obtain⟨lo,hi,mx⟩:=c;obtain⟨pl,pn,pm⟩:=p;obtain⟨h1,h2,h3,a,c,k,rfl,hc,rfl,hk⟩:=h;simp only [lM]at bV ⊢;obtain⟨uU,FL⟩:=bB bV;obtain⟨Wk,uU⟩:=bB uU;have e0:=a_ Wk;have e1:=a_ uU;simp only [E.den]at e0;simp only at h1 h2 h3 hk;generalize hL:pl.den ρ 0=L at*;generalize hN:pn.den ρ 0=N at*;generalize hn:n.den ρ 0=nn at*;generalize hl:lo.den ρ 0=l at*;generalize hh:hi.den ρ 0=hd at*;cases mx with
 | none=>
  cases pm with
  | none=>
   simp only []at FL;have e2:=a_ FL;rw [bH,hL,hh,hn]at e2;simp only [Option.map_none,Option.getD_none]at hk ⊢;refine⟨⟨by simp only [bH,hL,hl];omega,by simp only [bH,dX,hL,hl,hh,hn];omega,by simp,a,c,k+if c - L.toNat=l.toNat then 0 else l.toNat*s,by rw [hn],by rw [hn];exact hc,?_,?_⟩,e0,e1,by simp,_,_,_,rfl,rfl,fun _=>by omega,by simp⟩
   ·simp only [aC,Option.map_none,Option.getD_none,bH,dX,hL,hl,hh];congr 1
    ·split
     ·simp
     ·cases a<;>simp [c9]
    ·omega
    ·omega
   ·simp only [bH,hL,hl];intro ns;rcases ns with ns | ns
    ·simp only [Option.map_none,Option.getD_none]at ns;rw [if_neg (by omega),hk (.inl (by omega)),←Nat.add_mul];congr 1;omega
    ·have HS:l=0:=by omega
     have Ul:L=0:=by omega
     subst HS Ul;rw [hk (.inr rfl)];simp
  | some m0=>
   simp only []at FL;have e2:=a_ FL;rw [bH,hL,hh]at e2;simp only [Option.map_some,aee]at hk h3 ⊢;have h3':=h3 _ rfl;generalize hm:m0.den ρ 0=m at*;refine⟨⟨by simp only [bH,hL,hl];omega,by simp only [bH,dX,hL,hl,hh,hn];omega,?_,a,c,k+if m.toNat - L.toNat=l.toNat then 0 else l.toNat*s,by rw [hn],by rw [hn];exact hc,?_,?_⟩,e0,e1,by simp,_,_,_,rfl,rfl,fun _=>by omega,by simp⟩
   ·simp only [Option.map_some,bH,dX,hL,hl,hh,hn,hm,adv];rintro _ rfl;omega
   ·simp only [aC,Option.map_none,Option.getD_none,aee,Option.map_some,bH,dX,hL,hl,hh,hm];congr 1
    ·split
     ·simp
     ·cases a<;>simp [c9]
    ·omega
    ·omega
   ·simp only [bH,hL,hl,Option.map_some,aee,hm];intro ns;rcases ns with ns | ns
    ·rw [if_neg (by omega),hk (.inl (by omega)),←Nat.add_mul];congr 1;omega
    ·have HS:l=0:=by omega
     have Ul:L=0:=by omega
     subst HS Ul;rw [hk (.inr rfl)];simp
 | some mq=>
  have e3:(hd≤mq.den ρ 0)∧L+mq.den ρ 0≤nn∧∀m0,pm=some m0→L+mq.den ρ 0≤m0.den ρ 0:=by
   cases pm with
   | none=>
    simp only []at FL;obtain⟨g1,g2⟩:=bB FL;have g1:=a_ g1;have g2:=a_ g2;rw [bH,hL,hn]at g2;rw [hh]at g1;exact⟨g1,g2,by simp⟩
   | some m0=>
    simp only []at FL;obtain⟨g1,g2⟩:=bB FL;have g1:=a_ g1;have g2:=a_ g2;rw [bH,hL]at g2;rw [hh]at g1;have:L+N≤m0.den ρ 0∧m0.den ρ 0≤nn:=h3 _ rfl;refine⟨g1,by omega,?_⟩;rintro _ ⟨⟩;exact g2
  obtain⟨e3,e4,e5⟩:=e3;generalize hm:mq.den ρ 0=m at*;have JE:L.toNat+m.toNat≤(Option.map ag (Option.map (fun m=>E.den ρ m 0) pm)).getD c:=by
   cases pm with
   | none=>simp only [Option.map_none,Option.getD_none];omega
   | some m0=>
    have:=e5 _ rfl;simp only [Option.map_some,aee];omega
  generalize (Option.map ag (Option.map (fun m=>E.den ρ m 0) pm)).getD c=tp at*;simp only [Option.map_some];refine⟨⟨by simp only [bH,hL,hl];omega,by simp only [bH,dX,hL,hl,hh,hn];omega,?_,a,c,k+if m.toNat=l.toNat then 0 else l.toNat*s,by rw [hn],by rw [hn];exact hc,?_,?_⟩,e0,e1,?_,_,_,_,rfl,rfl,by simp,?_⟩
  ·simp only [Option.map_some,bH,dX,hL,hl,hh,hn,hm,adv];rintro _ rfl;omega
  ·simp only [aC,aee,Option.map_some,bH,dX,hL,hl,hh,hm];congr 1
   ·split
    ·simp
    ·cases a<;>simp [c9]
   ·omega
   ·omega
  ·simp only [bH,hL,hl,Option.map_some,aee,hm];intro ns;rcases ns with ns | ns
   ·rw [if_neg (by omega),hk (.inl (by omega)),←Nat.add_mul];congr 1;omega
   ·have HS:l=0:=by omega
    have Ul:L=0:=by omega
    subst HS Ul;rw [hk (.inr rfl)];simp
  ·rintro _ ⟨⟩;rw [hm];exact e3
  ·rintro _ ⟨⟩;rw [hm];omega
theorem uV{s:Nat}{v:Value}{n:E}: ∀(cs:List Cut) (x:Value) (p:Part),k9 ρ s v x n p→(∀b∈(q_ n cs p).2,b.prop ρ)→k9 ρ s v (cN ρ s x cs) n (q_ n cs p).1
 | [],_,_,h,_=>h
 | c::r,x,p,h,bV=>by
  simp only [q_]at bV ⊢;obtain⟨h1,h2⟩:=bB bV;exact uV r _ _ (h.step c h1).1 h2
theorem mZ{md:Bool}{t s n:Nat}{v:Value}{cs:List Value}{S:Nat→Prop}(h:(au md t s v n cs).p w S): ∃a c,v= .slice a n c∧n≤c:=by
 obtain⟨h0,_⟩:=h;cases md with
 | true=>
  simp only [if_true]at h0;rcases h0.2 with⟨rfl,rfl⟩ | ⟨g,o,cap,cur,rfl,_,CZ,_⟩
  ·exact⟨_,_,rfl,Nat.le_refl _⟩
  ·exact⟨_,_,rfl,CZ⟩
 | false=>
  simp only [Bool.false_eq_true,if_false]at h0;obtain⟨_,a,m,c',rfl,rfl,OQ,_⟩:=h0;exact⟨_,_,rfl,OQ⟩
theorem ek{x:SV}{r:Rt}(h:eZ hp x=some r)(cJ:Reads hp ρ w S [r.j])(bV: ∀b∈r.vcs,b.prop ρ):
  hp[r.j]? =some (.bu r.md r.v r.t r.s r.n r.aH)∧k9 ρ r.s (ρ.vv.getD r.v V1.nil).v (x.val ρ) r.n r.p:=by
 unfold eZ at h;split at h
 ·rename_i v;split at h
  ·rename_i j md v' t s n aH hf;cases h;obtain⟨hj,dD⟩:=cK hf;simp only [Ck.lI,beq_iff_eq]at dD;subst dD;have hS:=cJ j (by simp) _ hj;exact⟨hj,k9.whole (mZ hS)⟩
  ·cases h
 ·rename_i v cs s';split at h
  ·rename_i j md v' t s n aH hf;split at h
   ·rename_i hs;subst hs;cases h;obtain⟨hj,dD⟩:=cK hf;simp only [Ck.lI,beq_iff_eq]at dD;subst dD;have hS:=cJ j (by simp) _ hj;exact⟨hj,uV cs _ _ (k9.whole (mZ hS)) bV⟩
   ·cases h
  ·cases h
 ·cases h
end
end Go.RX
