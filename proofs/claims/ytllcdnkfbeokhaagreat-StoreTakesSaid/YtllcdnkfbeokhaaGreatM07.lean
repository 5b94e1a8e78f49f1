/- Executor. -/
import Derived.Test.YtllcdnkfbeokhaaGreatM06
open Array renaming getElem?_toList → aqS
open Go.Builtin renaming append_ → aqJ
open Go.Result renaming andThen_ok → aqu
open Go.Sem renaming run_bind → aqA, run_pure → aqH
open Int renaming toNat → ag
open List renaming eq_nil_of_length_eq_zero → aqF, length_append → aql, mem_filter → aqL, mem_range → aqE
open Option renaming map_eq_some_iff → aqq
open Option.some renaming injEq → aqp
open Prod.mk renaming injEq → aqX
namespace Go.RX
section
variable {P:Program} {ρ:Env} {w:World} {look:Nat→Option SV} {bD:Operand→Value} {hp:List Ck} {S:Nat→Nat→Prop} {nb nv:Nat} {T:List TI}
theorem bU{i:E}{n:Nat}(h:eD i=some n):i.den ρ 0=n:=by
 unfold eD at h;split at h
 ·cases h;rfl
 ·cases h
theorem vi(b:Nat)(i:E)(s c:Nat):(DO b i s c).val ρ= .pointer (some ⟨ρ.bv.getD b 0,(i.den ρ 0).toNat*s+c,none⟩):=by
 unfold DO;split
 ·rename_i n hn;simp [SV.val,bU hn]
 ·rfl
theorem tO(hT:bx P T=true){s:TypeId}{ts ti:TI}(hs:aP T s=some ts){fs:List (Nat×Nat)}(hk:ts.k= .struct fs){f t off:Nat}
  (hf:fs[f]? =some (t,off)) (ht:aP T t=some ti) (fy: ¬ti.size=0) (a:Addr):
  (Instr.fieldAt s (.pointer (some a)) f).run P w= .ok (.pointer (some (a.add off))) w:=by
 obtain⟨rfl,tn⟩:=aA hT hs;obtain⟨rfl,cO⟩:=aA hT ht;have df:=tn.kind;rw [hk]at df;obtain⟨fa,hu,Ra⟩:=nr df;subst Ra;rw [List.getElem?_map,aqq]at hf;obtain⟨fd,TO,he⟩:=hf;rw [aqS]at TO;simp only [aqX]at he;have h1:(Go.sizeOf fd.type).run P w= .ok ti.size w:=by rw [he.1];exact cO.sizeOf w
 simp [Instr.fieldAt,run_underlying hu,TO,Instr.sureAddr,fieldPlace,h1,fy,he.2]
theorem xw(hT:bx P T=true){s:TypeId}{ts ti:TI}(hs:aP T s=some ts){fs:List (Nat×Nat)}(hk:ts.k= .struct fs){f t off:Nat}
  (hf:fs[f]? =some (t,off)) (ht:aP T t=some ti) {cs x:List SV} {v:SV} (hx:jy off ti.size cs=some x) (hv:iU ti.k.agg x=some v):
  (Instr.field s (.agg (SV.ao ρ cs).toArray) f).run P w= .ok (v.val ρ) w:=by
 obtain⟨rfl,tn⟩:=aA hT hs;obtain⟨rfl,cO⟩:=aA hT ht;have df:=tn.kind;rw [hk]at df;obtain⟨fa,hu,Ra⟩:=nr df;subst Ra;rw [List.getElem?_map,aqq]at hf;obtain⟨fd,TO,he⟩:=hf;rw [aqS]at TO;simp only [aqX]at he;have h1:=yK (ρ:=ρ) (w:=w) cO hx hv;rw [←he.1,←he.2]at h1;simp [Instr.field,run_underlying hu,TO,asAgg,h1]
theorem qy(hT:bx P T=true){t:TypeId}{tt te:TI}(ht:aP T t=some tt){e:Nat}(hk:tt.k= .slice e)(iJ:aP T e=some te)
  (a:Addr) (n c:Nat) (k:IntKind) (j:Int) (h0:0≤j) (h1:j<n):
  (Instr.indexAt t (.slice (some a) n c) (.int k j)).run P w= .ok (.pointer (some (a.add (j.toNat*te.size)))) w:=by
 obtain⟨rfl,tn⟩:=aA hT ht;obtain⟨rfl,cO⟩:=aA hT iJ;have df:=tn.kind;rw [hk]at df;have hu:=bH df;simp [Instr.indexAt,run_underlying hu,asIntOf,h0,h1,cO.sizeOf w]
theorem yL(hT:bx P T=true){t:TypeId}{tt te:TI}(ht:aP T t=some tt){n e:Nat}(hk:tt.k= .arr n e)(iJ:aP T e=some te)
  (a:Addr) (k:IntKind) (j:Int) (h0:0≤j) (h1:j<n):
  (Instr.indexAt t (.pointer (some a)) (.int k j)).run P w= .ok (.pointer (some (a.add (j.toNat*te.size)))) w:=by
 obtain⟨rfl,tn⟩:=aA hT ht;obtain⟨rfl,cO⟩:=aA hT iJ;have df:=tn.kind;rw [hk]at df;have hu:=oJ df;simp [Instr.indexAt,run_underlying hu,asIntOf,Instr.sureAddr,h0,h1,cO.sizeOf w]
theorem tP(hT:bx P T=true){t:TypeId}{tt te:TI}(ht:aP T t=some tt){n e:Nat}(hk:tt.k= .arr n e)(iJ:aP T e=some te)
  (cs:Array Value) (k:IntKind) (j:Int) (h0:0≤j) (h1:j<n) {v:Value} (hp:(part te.t cs (j.toNat*te.size)).run P w= .ok v w):
  (Instr.index t (.agg cs) (.int k j)).run P w= .ok v w:=by
 obtain⟨rfl,tn⟩:=aA hT ht;obtain⟨rfl,cO⟩:=aA hT iJ;have df:=tn.kind;rw [hk]at df;have hu:=oJ df;simp [Instr.index,run_underlying hu,asIntOf,h0,h1,cO.sizeOf w,hp]
theorem o9(hT:bx P T=true){t:TypeId}{tt:TI}(ht:aP T t=some tt){e:Nat}(hk:tt.k= .slice e)(a:Option Addr)(n c:Nat)(ty:TypeId):
  (Builtin.len_ #[t] ty #[.slice a n c]).run P w= .ok (goInt n) w:=by
 obtain⟨rfl,tn⟩:=aA hT ht;have df:=tn.kind;rw [hk]at df;have hu:=bH df;simp [Builtin.len_,run_underlying hu]
theorem yM(hT:bx P T=true){t:TypeId}{tt:TI}(ht:aP T t=some tt)(hk:tt.k= .str)(s:ByteArray)(ty:TypeId):
  (Builtin.len_ #[t] ty #[.string s]).run P w= .ok (goInt s.size) w:=by
 obtain⟨rfl,tn⟩:=aA hT ht;have df:=tn.kind;rw [hk]at df;have hu:P.underlying tt.t=some .string:=by
  unfold iV at df;split at df<;>simp_all
 simp [Builtin.len_,run_underlying hu]
theorem DP(ay:List bL)(n:Nat):aF ρ (n+1) ay=aF ρ n ay++rowAt ρ ay n:=by
 unfold aF aK rowAt;rw [List.range_succ,List.flatMap_append];simp
theorem JP(c1 c2:List bL)(n:Nat)(h: ∀i,i<n→rowAt ρ c1 i=rowAt ρ c2 i):aF ρ n c1=aF ρ n c2:=by
 unfold aF aK;unfold rowAt at h;rw [List.flatMap_def,List.flatMap_def];congr 1;exact List.map_congr_left fun i hi=>h i (aqE.1 hi)
theorem pL(t ty e:TypeId)(i:TypeInfo)(z:Value)(size bytes:Nat)(ht:P.underlying t=some (.slice e))(hi:P.info? e=some i)(hz:i.zero=some z)
  (jY:i.size=size) (uT:i.bytes=bytes) (pK:z.cells.size=size)
  (b:Addr) (n:Nat) (xs:List Value) (Gg:xs.length=n*size) (holds: ∀j u,xs[j]? =some u→w.cell? (b.add j)=some u)
  (a:Addr) (m c:Nat) (hm:0<m) (news:List Value) (hl:news.length=m*size) (DQ: ∀j u,news[j]? =some u→w.cell? (a.add j)=some u)
  (Qp:n+m≤maxLen) (o_:(n+m)*bytes≤140737488355328):
  ∃v' w',(aqJ #[t,t] ty #[.slice (some b) n n,.slice (some a) m c]).run P w= .ok v' w'∧w'.jk e size v' (n+m) (xs++news)∧w.grownBy w' none∧v'.ownBlock=some w.heap.size:=by
 subst jY;subst uT;have hlen:(xs++news).length=(n+m)*i.size:=by rw [aql,Gg,hl,Nat.add_mul]
 have lN:=grownCap_ge w (n+m) n e;have MG:grownCap w (n+m) n e≤maxLen:=grownCap_le_maxLen w (n+m) n e Qp;have hr:=run_append_grow (P:=P) w t ty e i z ht hi hz b n n xs Gg holds a m c news hl DQ (by omega) (by simp only [maxLen]at Qp;omega) (growslice_fits (by omega) o_);refine⟨_,_,hr,⟨hlen,.inr ⟨w.heap.size,0,_,_,rfl,⟨e,_,heap_alloc_new w.drew _,.zero _⟩,lN,MG,?_,?_⟩⟩,⟨rfl,rfl,rfl,by simp,fun k hk _=>heap_alloc_old w.drew _ hk⟩,rfl⟩
 ·simp only [Array.size_append,List.size_toArray,size_zeroCells,pK,Gg,hl,←Nat.add_mul,Nat.zero_add];intro _;apply Nat.le_of_eq;congr 1;omega
 ·simp only [Array.toList_append,List.drop_zero]
  first
   | (rw [←hlen];exact List.take_left)
   | (rw [List.append_assoc,←List.append_assoc,←hlen];exact List.take_left)
theorem nT(t ty e:TypeId)(i:TypeInfo)(z:Value)(size bytes:Nat)(ht:P.underlying t=some (.slice e))(hi:P.info? e=some i)(hz:i.zero=some z)
  (jY:i.size=size) (uT:i.bytes=bytes) (pK:z.cells.size=size) (fy:0<size)
  (v:Value) (n:Nat) (xs:List Value) (cY:w.jk e size v n xs)
  (a:Addr) (m c:Nat) (news:List Value) (hl:news.length=m*size) (DQ: ∀j u,news[j]? =some u→w.cell? (a.add j)=some u) (h1: ∀u∈news,u.oneCell'=true)
  (Qp:n+m≤maxLen) (o_:(n+m)*bytes≤140737488355328):
  ∃v' w',(aqJ #[t,t] ty #[v,.slice (some a) m c]).run P w= .ok v' w'∧w'.jk e size v' (n+m) (xs++news)∧w.grownBy w' v.ownBlock∧
   (v'.ownBlock=v.ownBlock∨v'.ownBlock=some w.heap.size):=by
 rcases cY.2 with⟨rfl,rfl⟩ | ⟨g,o,cap,cur,rfl,⟨t',fz,hg,Gi⟩,Dc,QX,mC,AY⟩
 ·have hx:xs=[]:=aqF (by simpa using cY.1);subst hx;obtain⟨v',w',r1,r2,r3,_,r5⟩:=run_append_own_at (P:=P) w 0 t ty e i z size bytes ht hi hz jY uT pK fy (.slice none 0 0) 0 [] (World.ownsRow_nil w 0 e size) a m c news hl DQ h1 Qp o_ (Nat.zero_le _);exact⟨v',w',r1,Ju r2,r3,r5⟩
 ·subst jY;subst uT;have hlen:(xs++news).length=(n+m)*i.size:=by rw [aql,cY.1,hl,Nat.add_mul]
  by_cases tQ:n+m≤cap
  ·by_cases Gr:m=0
   ·subst Gr;have:news=[]:=aqF (by simpa using hl);subst this;refine⟨_,w,?_,by simpa using cY,⟨rfl,rfl,rfl,Nat.le_refl _,fun _ _ _=>rfl⟩,.inl rfl⟩;simp [aqJ,run_underlying ht,sizeOf,typeInfo,hi,Builtin.lenOf,Builtin.firstCells,Dc,storeCells,loadCells,loadCellsFrom]
   have mC:=mC (by omega);have hmul:(n+m)*i.size≤cap*i.size:=Nat.mul_le_mul_right _ tQ;rw [Nat.add_mul]at hmul;have sK:o+n*i.size+news.length≤cur.size:=by omega
   have hfc:=run_firstCells_some (P:=P) w i.size m a m c news hl DQ;have qs:=fA (P:=P) g (o+n*i.size) t' fz news 0 cur w hg Gi (by simpa using sK) h1;simp only [Nat.add_zero]at qs;have hr:(aqJ #[t,t] ty #[.slice (some ⟨g,o,none⟩) n cap,.slice (some a) m c]).run P w= .ok (.slice (some ⟨g,o,none⟩) (n+m) cap) (w.setRow g (cur.toList.take (o+n*i.size)++news++cur.toList.drop (o+n*i.size+news.length)).toArray):=by
    simp [aqJ,run_underlying ht,sizeOf,typeInfo,hi,Builtin.lenOf,tQ,hfc,fw,qs]
   refine⟨_,_,hr,⟨hlen,.inr ⟨g,o,cap,_,rfl,⟨t',fz,setRow_heap w g cur _ t' _ hg,by refine Eq.mp (congrArg (qh · fz) ?_) Gi;simp only [List.size_toArray,aql,List.length_take,List.length_drop,Array.length_toList]at sK ⊢;omega⟩,tQ,QX,?_,?_⟩⟩,⟨rfl,rfl,rfl,by simp,fun k _ hk=>setRow_other w g k _ (fun e=>hk (by simp [Value.ownBlock,e]))⟩,Or.inl rfl⟩
   ·simp only [List.size_toArray,aql,List.length_take,List.length_drop,Array.length_toList];intro _;omega
   ·have:=qt cur.toList news o (n*i.size) ((n+m)*i.size) (by rw [Nat.add_mul];omega) (by rw [Nat.add_mul];simp;omega);simp only;rw [this,List.take_take,Nat.min_eq_left (by rw [Nat.add_mul];omega),AY,hl,←Nat.add_mul,List.drop_eq_nil_of_le (by rw [List.length_take];exact Nat.min_le_left _ _),List.append_nil]
  ·have lN:=grownCap_ge w (n+m) cap e;have MG:grownCap w (n+m) cap e≤maxLen:=grownCap_le_maxLen w (n+m) cap e Qp;have hr:=run_append_grow (P:=P) w t ty e i z ht hi hz ⟨g,o,none⟩ n cap xs cY.1 (jZ cY) a m c news hl DQ (by omega) (by simp only [maxLen]at Qp;omega) (growslice_fits (by omega) o_);refine⟨_,_,hr,⟨hlen,.inr ⟨w.heap.size,0,_,_,rfl,⟨e,_,heap_alloc_new w.drew _,.zero _⟩,lN,MG,?_,?_⟩⟩,⟨rfl,rfl,rfl,by simp,fun k hk _=>heap_alloc_old w.drew _ hk⟩,Or.inr rfl⟩
   ·simp only [Array.size_append,List.size_toArray,size_zeroCells,pK,cY.1,hl,←Nat.add_mul,Nat.zero_add];intro _;apply Nat.le_of_eq;congr 1;omega
   ·simp only [Array.toList_append,List.drop_zero]
    first
     | (rw [←hlen];exact List.take_left)
     | (rw [List.append_assoc,←List.append_assoc,←hlen];exact List.take_left)
theorem B1(hT:bx P T=true)(jf:ρ.Ok){ts:TypeId}{tt te:TI}(ht:aP T ts=some tt){e:Nat}(hk:tt.k= .slice e)(iJ:aP T e=some te){s:Nat}(hs:te.size=s)(xQ:0<s)
  {v j j' b cap:Nat} {n:E} {ay aN:List bL} {cs:List SV} {wr:Bool} (hj:hp[j]? =some (.cr true v e s n ay)) (hS:((Ck.cr true v e s n ay).den ρ).p w (S j))
  (_:hp[j']? =some (.row b wr cs)) (JQ:((Ck.row b wr cs).den ρ).p w (S j')) (hw:s=bW ay) (hlen:j8 cs=s) (jV:cs.all SV.one=true) (nR:kU n cs ay=some aN)
  (h0:0≤n.den ρ 0) (DR:(n.den ρ 0+1)*(max 1 te.bytes:Nat)≤140737488355328) (ty:TypeId):
  Did P ρ w hp S nb nv ((do pure (.value (←aqJ #[ts,ts] ty #[(SV.vv v).val ρ,.slice (some ⟨ρ.bv.getD b 0,0,none⟩) 1 cap])):Sem Next).run P w)
   {val:= .vv nv,gZ:= .app j (.cr true nv e s (dB n (.lit 1)) aN)}:=by
 obtain⟨rfl,fQ⟩:=aA hT ht;obtain⟨rfl,cO⟩:=aA hT iJ;have df:=fQ.kind;rw [hk]at df;have hu:=bH df;obtain⟨i,hi,fy,uT,z,hz,hc⟩:=cO.info;have pK:z.cells.size=te.size:=by rw [←Array.length_toList,←hc ρ,bh,cO.AB]
 obtain⟨cY,lF⟩:=hS;simp only [if_true]at cY;have aiy:((n.den ρ 0).toNat+1)*(max 1 te.bytes)≤140737488355328:=by
  have:(((n.den ρ 0).toNat+1:Nat):Int)=n.den ρ 0+1:=by omega
  rw [←this]at DR;have h2:((((n.den ρ 0).toNat+1)*(max 1 te.bytes):Nat):Int)≤((140737488355328:Nat):Int):=by rw [Int.natCast_mul];exact DR
  exact Int.ofNat_le.1 h2
 have Ao:((n.den ρ 0).toNat+1)*1≤((n.den ρ 0).toNat+1)*max 1 te.bytes:=Nat.mul_le_mul_left _ (Nat.le_max_left _ _);have DS:((n.den ρ 0).toNat+1)*te.bytes≤((n.den ρ 0).toNat+1)*max 1 te.bytes:=Nat.mul_le_mul_left _ (Nat.le_max_right _ _);obtain⟨v',w',hr,how,hg,LB⟩:=nT (P:=P) (w:=w) tt.t ty te.t i z s te.bytes hu hi hz (by rw [fy,hs]) uT (by rw [pK,hs]) xQ
  _ _ _ cY ⟨ρ.bv.getD b 0,0,none⟩ 1 cap (SV.ao ρ cs) (by rw [bh,Nat.one_mul];exact hlen)
  (fun k u hk=>jz JQ 0 k u hk) (mE ρ jV jf) (Nat.le_trans (show(n.den ρ 0).toNat+1≤140737488355328 by omega) (by unfold maxLen;omega)) (by omega)
 have gp:aF ρ ((dB n (.lit 1)).den ρ 0).toNat aN=aF ρ (n.den ρ 0).toNat ay++SV.ao ρ cs:=by
  have e1:((dB n (.lit 1)).den ρ 0).toNat=(n.den ρ 0).toNat+1:=by
   rw [bB];simp only [E.den];omega
  obtain⟨p1,p2,p3,p4⟩:=iW ρ nR;rw [e1,DP,p4,JP aN ay _ (fun k hk=>p3 k (by omega))];congr 1;rw [List.drop_eq_nil_of_le,List.append_nil];rw [show(rowAt ρ ay (n.den ρ 0).toNat).length=bW ay from dC ρ ay _,bh,←hw];exact Nat.le_of_eq hlen.symm
 refine⟨te.t,s,_,aN,v',w',fun k=>v'.ownBlock=some k,rfl,rfl,by simp only [SV.val,aqA,hr,aqu,aqH],?_,⟨_,hj,rfl⟩,?_,?_,⟨?_,fun k=>⟨fun h=>⟨h,.inl rfl⟩,fun h=>h.1⟩⟩,?_⟩
 ·rcases how.2 with⟨rfl,_⟩ | ⟨g,o,cap,cur,rfl,_⟩<;>rfl
 ·exact⟨hg.os,hg.tape,hg.output,hg.size⟩
 ·intro k hk hn;refine hg.block k hk fun he=>hn ((lF k).2 ⟨he.symm,.inl rfl⟩)
 ·simp only [if_true];have e1:((dB n (.lit 1)).den ρ 0).toNat=(n.den ρ 0).toNat+1:=by
   rw [bB];simp only [E.den];omega
  rw [gp,e1];exact how
 ·intro k hk;rcases LB with h | h
  ·left;rw [lF k,←h];exact⟨hk,.inl rfl⟩
  ·right;rw [hk]at h;cases h;exact⟨Nat.le_refl _,iS how hk⟩
theorem vj(hT:bx P T=true)(jf:ρ.Ok){ts:TypeId}{tt te:TI}(ht:aP T ts=some tt){e:Nat}(hk:tt.k= .slice e)(iJ:aP T e=some te){s:Nat}(hs:te.size=s)(xQ:0<s)
  {j' b cap:Nat} {ay aN:List bL} {cs:List SV} {wr:Bool}
  (JQ:((Ck.row b wr cs).den ρ).p w (S j')) (hw:s=bW ay) (hlen:j8 cs=s) (jV:cs.all SV.one=true) (nR:kU (.lit 0) cs ay=some aN)
  (DR:te.bytes≤140737488355328) (ty:TypeId):
  Did P ρ w hp S nb nv ((do pure (.value (←aqJ #[ts,ts] ty #[SV.bu.val ρ,.slice (some ⟨ρ.bv.getD b 0,0,none⟩) 1 cap])):Sem Next).run P w)
   {val:= .vv nv,gZ:= .own (.cr true nv e s (.lit 1) aN)}:=by
 obtain⟨rfl,fQ⟩:=aA hT ht;obtain⟨rfl,cO⟩:=aA hT iJ;have df:=fQ.kind;rw [hk]at df;have hu:=bH df;obtain⟨i,hi,fy,uT,z,hz,hc⟩:=cO.info;have pK:z.cells.size=te.size:=by rw [←Array.length_toList,←hc ρ,bh,cO.AB]
 obtain⟨v',w',hr,how,hg,LB⟩:=nT (P:=P) (w:=w) tt.t ty te.t i z s te.bytes hu hi hz (by rw [fy,hs]) uT (by rw [pK,hs]) xQ
  (.slice none 0 0) 0 [] (mB w te.t s) ⟨ρ.bv.getD b 0,0,none⟩ 1 cap (SV.ao ρ cs) (by rw [bh,Nat.one_mul];exact hlen)
  (fun k u hk=>jz JQ 0 k u hk) (mE ρ jV jf) (by unfold maxLen;omega) (by omega)
 have gp:aF ρ 1 aN=SV.ao ρ cs:=by
  obtain⟨p1,p2,p3,p4⟩:=iW ρ nR;have e0:aF ρ 1 aN=aF ρ 0 aN++rowAt ρ aN 0:=DP aN 0;rw [e0];simp only [E.den,Int.toNat_zero]at p4;rw [p4,List.drop_eq_nil_of_le,List.append_nil]
  ·simp [aF,aK]
  ·rw [show(rowAt ρ ay 0).length=bW ay from dC ρ ay _,bh,←hw];exact Nat.le_of_eq hlen.symm
 refine⟨te.t,s,_,aN,v',w',fun k=>v'.ownBlock=some k,rfl,rfl,by simp only [SV.val,aqA,hr,aqu,aqH],?_,⟨hg.os,hg.tape,hg.output,hg.size⟩,fun k hk=>hg.block k hk (by simp [Value.ownBlock]),⟨?_,fun k=>⟨fun h=>⟨h,.inl rfl⟩,fun h=>h.1⟩⟩,?_⟩
 ·rcases how.2 with⟨rfl,_⟩ | ⟨g,o,cap,cur,rfl,_⟩<;>rfl
 ·simp only [if_true];have e1:((E.lit 1).den ρ 0).toNat=1:=rfl;rw [e1,gp];simpa using how
 ·intro k hk;rcases LB with h | h
  ·rw [hk]at h;cases h
  ·rw [hk]at h;cases h;exact⟨Nat.le_refl _,iS how hk⟩
end
section
variable {P:Program} {ρ:Env} {w:World} {look:Nat→Option SV} {bD:Operand→Value} {hp:List Ck} {S:Nat→Nat→Prop} {nb nv:Nat} {T:List TI}
theorem aZ{a b:E}(h: ∀c∈ek a b,c.prop ρ):a.den ρ 0≤b.den ρ 0:=by
 unfold ek at h;split at h
 ·rename_i he;subst he;exact Int.le_refl _
 ·have key:(wz a b).den ρ=true:=by
   by_cases hl:wz a b= .lit true
   ·rw [hl];rfl
   ·exact(BE.bK ρ _).2 (h _ (aqL.2 ⟨by simp,by simpa using hl⟩))
  rw [iA]at key;exact of_decide_eq_true key
theorem xx{a b:E}(h: ∀c∈[Gf a b].filter fun b=>b != .lit true,c.prop ρ):a.den ρ 0<b.den ρ 0:=by
 have key:(Gf a b).den ρ=true:=by
  by_cases hl:Gf a b= .lit true
  ·rw [hl];rfl
  ·exact(BE.bK ρ _).2 (h _ (aqL.2 ⟨by simp,by simpa using hl⟩))
 rw [tF]at key;exact of_decide_eq_true key
theorem bw{α:Type}{q:α→Prop}{a b:List α}(h: ∀c∈a++b,q c):(∀c∈a,q c)∧∀c∈b,q c:=
 ⟨fun c hc=>h c (List.mem_append_left _ hc),fun c hc=>h c (List.mem_append_right _ hc)⟩
theorem js(a:Addr):a.add 0=a:=by simp [Addr.add]
theorem B2(a:Option Addr):a.map (·.add 0)=a:=by cases a<;>simp [js]
structure Y5 (s:Nat) (v x:Value) (n L N:Int) (mx:Option Int):Prop where
 lo:0≤L
 hi:L+N≤n
 top: ∀m,mx=some m→L+N≤m∧m≤n
 is: ∃a c k,v= .slice a n.toNat c∧n.toNat≤c∧x= .slice (a.map (·.add k)) N.toNat ((mx.map ag).getD c - L.toNat)∧(L.toNat<(mx.map ag).getD c∨L=0→k=L.toNat*s)
abbrev Part.den(ρ:Env)(p:Part):Int×Int×Option Int:=(p.lo.den ρ 0,p.len.den ρ 0,p.mx.map fun m=>m.den ρ 0)
def mI(ρ:Env)(s:Nat)(v x:Value)(n:E)(p:Part):Prop:=Y5 s v x (n.den ρ 0) (p.lo.den ρ 0) (p.len.den ρ 0) (p.mx.map fun m=>m.den ρ 0)
theorem mI.whole{s:Nat}{v:Value}{n:E}(h: ∃a c,v= .slice a (n.den ρ 0).toNat c∧(n.den ρ 0).toNat≤c):mI ρ s v v n ⟨.lit 0,n,none⟩:=by
 obtain⟨a,c,hv,hc⟩:=h;refine⟨by simp [E.den],by simp [E.den],by simp,a,c,0,hv,hc,?_,?_⟩
 ·rw [B2];simpa [E.den] using hv
 ·simp [E.den]
theorem mI.step{s:Nat}{v x:Value}{n:E}{p:Part}(h:mI ρ s v x n p)(c:Cut)(bY: ∀b∈(ns n p c).2,b.prop ρ):
  mI ρ s v (aE s x (c.lo.den ρ 0).toNat (c.hi.den ρ 0).toNat (c.mx.map fun m=>(m.den ρ 0).toNat)) n (ns n p c).1∧
  0≤c.lo.den ρ 0∧c.lo.den ρ 0≤c.hi.den ρ 0∧(∀m,c.mx=some m→c.hi.den ρ 0≤m.den ρ 0)∧
  ∃a N C,x= .slice a N C∧N=(p.len.den ρ 0).toNat∧(c.mx=none→(c.hi.den ρ 0).toNat≤C)∧∀m,c.mx=some m→(m.den ρ 0).toNat≤C:=by
 obtain⟨lo,hi,mx⟩:=c;obtain⟨pl,pn,pm⟩:=p;obtain⟨h1,h2,h3,a,c,k,rfl,hc,rfl,hk⟩:=h;simp only [ns]at bY ⊢;obtain⟨wJ,FR⟩:=bw bY;obtain⟨hv0,wJ⟩:=bw wJ;have e0:=aZ hv0;have e1:=aZ wJ;simp only [E.den]at e0;simp only at h1 h2 h3 hk;generalize hL:pl.den ρ 0=L at*;generalize hN:pn.den ρ 0=N at*;generalize hn:n.den ρ 0=nn at*;generalize hl:lo.den ρ 0=l at*;generalize hh:hi.den ρ 0=hd at*;cases mx with
 | none=>
  cases pm with
  | none=>
   simp only []at FR;have e2:=aZ FR;rw [bB,hL,hh,hn]at e2;simp only [Option.map_none,Option.getD_none]at hk ⊢;refine⟨⟨by simp only [bB,hL,hl];omega,by simp only [bB,eZ,hL,hl,hh,hn];omega,by simp,a,c,k+if c - L.toNat=l.toNat then 0 else l.toNat*s,by rw [hn],by rw [hn];exact hc,?_,?_⟩,e0,e1,by simp,_,_,_,rfl,rfl,fun _=>by omega,by simp⟩
   ·simp only [aE,Option.map_none,Option.getD_none,bB,eZ,hL,hl,hh];congr 1
    ·split
     ·simp
     ·cases a<;>simp [dv]
    ·omega
    ·omega
   ·simp only [bB,hL,hl];intro xy;rcases xy with xy | xy
    ·simp only [Option.map_none,Option.getD_none]at xy;rw [if_neg (by omega),hk (.inl (by omega)),←Nat.add_mul];congr 1;omega
    ·have An:l=0:=by omega
     have Y6:L=0:=by omega
     subst An Y6;rw [hk (.inr rfl)];simp
  | some m0=>
   simp only []at FR;have e2:=aZ FR;rw [bB,hL,hh]at e2;simp only [Option.map_some,Option.getD_some]at hk h3 ⊢;have h3':=h3 _ rfl;generalize hm:m0.den ρ 0=m at*;refine⟨⟨by simp only [bB,hL,hl];omega,by simp only [bB,eZ,hL,hl,hh,hn];omega,?_,a,c,k+if m.toNat - L.toNat=l.toNat then 0 else l.toNat*s,by rw [hn],by rw [hn];exact hc,?_,?_⟩,e0,e1,by simp,_,_,_,rfl,rfl,fun _=>by omega,by simp⟩
   ·simp only [Option.map_some,bB,eZ,hL,hl,hh,hn,hm,aqp];rintro _ rfl;omega
   ·simp only [aE,Option.map_none,Option.getD_none,Option.getD_some,Option.map_some,bB,eZ,hL,hl,hh,hm];congr 1
    ·split
     ·simp
     ·cases a<;>simp [dv]
    ·omega
    ·omega
   ·simp only [bB,hL,hl,Option.map_some,Option.getD_some,hm];intro xy;rcases xy with xy | xy
    ·rw [if_neg (by omega),hk (.inl (by omega)),←Nat.add_mul];congr 1;omega
    ·have An:l=0:=by omega
     have Y6:L=0:=by omega
     subst An Y6;rw [hk (.inr rfl)];simp
 | some mq=>
  have e3:(hd≤mq.den ρ 0)∧L+mq.den ρ 0≤nn∧∀m0,pm=some m0→L+mq.den ρ 0≤m0.den ρ 0:=by
   cases pm with
   | none=>
    simp only []at FR;obtain⟨g1,g2⟩:=bw FR;have g1:=aZ g1;have g2:=aZ g2;rw [bB,hL,hn]at g2;rw [hh]at g1;exact⟨g1,g2,by simp⟩
   | some m0=>
    simp only []at FR;obtain⟨g1,g2⟩:=bw FR;have g1:=aZ g1;have g2:=aZ g2;rw [bB,hL]at g2;rw [hh]at g1;have:L+N≤m0.den ρ 0∧m0.den ρ 0≤nn:=h3 _ rfl;refine⟨g1,by omega,?_⟩;rintro _ ⟨⟩;exact g2
  obtain⟨e3,e4,e5⟩:=e3;generalize hm:mq.den ρ 0=m at*;have JR:L.toNat+m.toNat≤(Option.map ag (Option.map (fun m=>E.den ρ m 0) pm)).getD c:=by
   cases pm with
   | none=>simp only [Option.map_none,Option.getD_none];omega
   | some m0=>
    have:=e5 _ rfl;simp only [Option.map_some,Option.getD_some];omega
  generalize (Option.map ag (Option.map (fun m=>E.den ρ m 0) pm)).getD c=tp at*;simp only [Option.map_some];refine⟨⟨by simp only [bB,hL,hl];omega,by simp only [bB,eZ,hL,hl,hh,hn];omega,?_,a,c,k+if m.toNat=l.toNat then 0 else l.toNat*s,by rw [hn],by rw [hn];exact hc,?_,?_⟩,e0,e1,?_,_,_,_,rfl,rfl,by simp,?_⟩
  ·simp only [Option.map_some,bB,eZ,hL,hl,hh,hn,hm,aqp];rintro _ rfl;omega
  ·simp only [aE,Option.getD_some,Option.map_some,bB,eZ,hL,hl,hh,hm];congr 1
   ·split
    ·simp
    ·cases a<;>simp [dv]
   ·omega
   ·omega
  ·simp only [bB,hL,hl,Option.map_some,Option.getD_some,hm];intro xy;rcases xy with xy | xy
   ·rw [if_neg (by omega),hk (.inl (by omega)),←Nat.add_mul];congr 1;omega
   ·have An:l=0:=by omega
    have Y6:L=0:=by omega
    subst An Y6;rw [hk (.inr rfl)];simp
  ·rintro _ ⟨⟩;rw [hm];exact e3
  ·rintro _ ⟨⟩;rw [hm];omega
theorem wK{s:Nat}{v:Value}{n:E}: ∀(cs:List Cut) (x:Value) (p:Part),mI ρ s v x n p→(∀b∈(sL n cs p).2,b.prop ρ)→mI ρ s v (dD ρ s x cs) n (sL n cs p).1
 | [],_,_,h,_=>h
 | c::r,x,p,h,bY=>by
  simp only [sL]at bY ⊢;obtain⟨h1,h2⟩:=bw bY;exact wK r _ _ (h.step c h1).1 h2
theorem oK{md:Bool}{t s n:Nat}{v:Value}{cs:List Value}{S:Nat→Prop}(h:(aB md t s v n cs).p w S): ∃a c,v= .slice a n c∧n≤c:=by
 obtain⟨h0,_⟩:=h;cases md with
 | true=>
  simp only [if_true]at h0;rcases h0.2 with⟨rfl,rfl⟩ | ⟨g,o,cap,cur,rfl,_,Dc,_⟩
  ·exact⟨_,_,rfl,Nat.le_refl _⟩
  ·exact⟨_,_,rfl,Dc⟩
 | false=>
  simp only [Bool.false_eq_true,if_false]at h0;obtain⟨_,a,m,c',rfl,rfl,QY,_⟩:=h0;exact⟨_,_,rfl,QY⟩
theorem fE{x:SV}{r:Rt}(h:gL hp x=some r)(cN:Reads hp ρ w S [r.j])(bY: ∀b∈r.vcs,b.prop ρ):
  hp[r.j]? =some (.cr r.md r.v r.t r.s r.n r.ay)∧mI ρ r.s (ρ.vv.getD r.v V1.nil).v (x.val ρ) r.n r.p:=by
 unfold gL at h;split at h
 ·rename_i v;split at h
  ·rename_i j md v' t s n ay hf;cases h;obtain⟨hj,dK⟩:=cK hf;simp only [Ck.lP,beq_iff_eq]at dK;subst dK;have hS:=cN j (by simp) _ hj;exact⟨hj,mI.whole (oK hS)⟩
  ·cases h
 ·rename_i v cs s';split at h
  ·rename_i j md v' t s n ay hf;split at h
   ·rename_i hs;subst hs;cases h;obtain⟨hj,dK⟩:=cK hf;simp only [Ck.lP,beq_iff_eq]at dK;subst dK;have hS:=cN j (by simp) _ hj;exact⟨hj,wK cs _ _ (mI.whole (oK hS)) bY⟩
   ·cases h
  ·cases h
 ·cases h
end
end Go.RX
