/- Executor. -/
import Derived.Test.YtllcdnkfbeokhaaGreatM06
open Array renaming getElem?_toList → auX
open Go.Builtin renaming append_ → auP
open Go.Instr renaming sliceBounds → au3
open Go.Result renaming andThen_ok → aut
open Go.Sem renaming run_bind → auC, run_pure → auI
open Int renaming toNat → ag
open List renaming eq_nil_of_length_eq_zero → auH, length_append → aum, mem_filter → auR, mem_range → auG
open Option renaming getD_some → au8, map_eq_some_iff → aus
open Option.some renaming injEq → auq
open Prod.mk renaming injEq → au2
namespace Go.RX
section
variable {P:Program} {ρ:Env} {w:World} {look:Nat→Option SV} {bH:Operand→Value} {hp:List Ck} {S:Nat→Nat→Prop} {nb nv:Nat} {T:List TI}
theorem bZ{i:E}{n:Nat}(h:eU i=some n):i.den ρ 0=n:=by
 unfold eU at h;split at h
 ·cases h;rfl
 ·cases h
theorem wT(b:Nat)(i:E)(s c:Nat):(F1 b i s c).val ρ= .pointer (some ⟨ρ.bv.getD b 0,(i.den ρ 0).toNat*s+c,none⟩):=by
 unfold F1;split
 ·rename_i n hn;simp [SV.val,bZ hn]
 ·rfl
theorem vp(hT:bB P T=true){s:TypeId}{ts ti:TI}(hs:aU T s=some ts){fs:List (Nat×Nat)}(hk:ts.k= .struct fs){f t off:Nat}
  (hf:fs[f]? =some (t,off)) (ht:aU T t=some ti) (gx: ¬ti.size=0) (a:Addr):
  (Instr.fieldAt s (.pointer (some a)) f).run P w= .ok (.pointer (some (a.add off))) w:=by
 obtain⟨rfl,uO⟩:=aC hT hs;obtain⟨rfl,dc⟩:=aC hT ht;have dE:=uO.kind;rw [hk]at dE;obtain⟨fa,hu,UE⟩:=og dE;subst UE;rw [List.getElem?_map,aus]at hf;obtain⟨fd,XF,he⟩:=hf;rw [auX]at XF;simp only [au2]at he;have h1:(Go.sizeOf fd.type).run P w= .ok ti.size w:=by rw [he.1];exact dc.sizeOf w
 simp [Instr.fieldAt,run_underlying hu,XF,Instr.sureAddr,fieldPlace,h1,gx,he.2]
theorem yR(hT:bB P T=true){s:TypeId}{ts ti:TI}(hs:aU T s=some ts){fs:List (Nat×Nat)}(hk:ts.k= .struct fs){f t off:Nat}
  (hf:fs[f]? =some (t,off)) (ht:aU T t=some ti) {cs x:List SV} {v:SV} (hx:j6 off ti.size cs=some x) (hv:jt ti.k.agg x=some v):
  (Instr.field s (.agg (SV.ao ρ cs).toArray) f).run P w= .ok (v.val ρ) w:=by
 obtain⟨rfl,uO⟩:=aC hT hs;obtain⟨rfl,dc⟩:=aC hT ht;have dE:=uO.kind;rw [hk]at dE;obtain⟨fa,hu,UE⟩:=og dE;subst UE;rw [List.getElem?_map,aus]at hf;obtain⟨fd,XF,he⟩:=hf;rw [auX]at XF;simp only [au2]at he;have h1:=Ac (ρ:=ρ) (w:=w) dc hx hv;rw [←he.1,←he.2]at h1;simp [Instr.field,run_underlying hu,XF,asAgg,h1]
theorem rL(hT:bB P T=true){t:TypeId}{tt te:TI}(ht:aU T t=some tt){e:Nat}(hk:tt.k= .slice e)(jf:aU T e=some te)
  (a:Addr) (n c:Nat) (k:IntKind) (j:Int) (h0:0≤j) (h1:j<n):
  (Instr.indexAt t (.slice (some a) n c) (.int k j)).run P w= .ok (.pointer (some (a.add (j.toNat*te.size)))) w:=by
 obtain⟨rfl,uO⟩:=aC hT ht;obtain⟨rfl,dc⟩:=aC hT jf;have dE:=uO.kind;rw [hk]at dE;have hu:=bK dE;simp [Instr.indexAt,run_underlying hu,asIntOf,h0,h1,dc.sizeOf w]
theorem Ad(hT:bB P T=true){t:TypeId}{tt te:TI}(ht:aU T t=some tt){n e:Nat}(hk:tt.k= .arr n e)(jf:aU T e=some te)
  (a:Addr) (k:IntKind) (j:Int) (h0:0≤j) (h1:j<n):
  (Instr.indexAt t (.pointer (some a)) (.int k j)).run P w= .ok (.pointer (some (a.add (j.toNat*te.size)))) w:=by
 obtain⟨rfl,uO⟩:=aC hT ht;obtain⟨rfl,dc⟩:=aC hT jf;have dE:=uO.kind;rw [hk]at dE;have hu:=pz dE;simp [Instr.indexAt,run_underlying hu,asIntOf,Instr.sureAddr,h0,h1,dc.sizeOf w]
theorem vq(hT:bB P T=true){t:TypeId}{tt te:TI}(ht:aU T t=some tt){n e:Nat}(hk:tt.k= .arr n e)(jf:aU T e=some te)
  (cs:Array Value) (k:IntKind) (j:Int) (h0:0≤j) (h1:j<n) {v:Value} (hp:(part te.t cs (j.toNat*te.size)).run P w= .ok v w):
  (Instr.index t (.agg cs) (.int k j)).run P w= .ok v w:=by
 obtain⟨rfl,uO⟩:=aC hT ht;obtain⟨rfl,dc⟩:=aC hT jf;have dE:=uO.kind;rw [hk]at dE;have hu:=pz dE;simp [Instr.index,run_underlying hu,asIntOf,h0,h1,dc.sizeOf w,hp]
theorem p8(hT:bB P T=true){t:TypeId}{tt:TI}(ht:aU T t=some tt){e:Nat}(hk:tt.k= .slice e)(a:Option Addr)(n c:Nat)(ty:TypeId):
  (Builtin.len_ #[t] ty #[.slice a n c]).run P w= .ok (goInt n) w:=by
 obtain⟨rfl,uO⟩:=aC hT ht;have dE:=uO.kind;rw [hk]at dE;have hu:=bK dE;simp [Builtin.len_,run_underlying hu]
theorem Af(hT:bB P T=true){t:TypeId}{tt:TI}(ht:aU T t=some tt)(hk:tt.k= .str)(s:ByteArray)(ty:TypeId):
  (Builtin.len_ #[t] ty #[.string s]).run P w= .ok (goInt s.size) w:=by
 obtain⟨rfl,uO⟩:=aC hT ht;have dE:=uO.kind;rw [hk]at dE;have hu:P.underlying tt.t=some .string:=by
  unfold ju at dE;split at dE<;>simp_all
 simp [Builtin.len_,run_underlying hu]
theorem F2(aA:List bP)(n:Nat):aG ρ (n+1) aA=aG ρ n aA++rowAt ρ aA n:=by
 unfold aG aM rowAt;rw [List.range_succ,List.flatMap_append];simp
theorem MH(c1 c2:List bP)(n:Nat)(h: ∀i,i<n→rowAt ρ c1 i=rowAt ρ c2 i):aG ρ n c1=aG ρ n c2:=by
 unfold aG aM;unfold rowAt at h;rw [List.flatMap_def,List.flatMap_def];congr 1;exact List.map_congr_left fun i hi=>h i (auG.1 hi)
theorem qK(t ty e:TypeId)(i:TypeInfo)(z:Value)(size bytes:Nat)(ht:P.underlying t=some (.slice e))(hi:P.info? e=some i)(hz:i.zero=some z)
  (eZ:i.size=size) (wG:i.bytes=bytes) (qJ:z.cells.size=size)
  (b:Addr) (n:Nat) (xs:List Value) (IC:xs.length=n*size) (holds: ∀j u,xs[j]? =some u→w.cell? (b.add j)=some u)
  (a:Addr) (m c:Nat) (hm:0<m) (news:List Value) (hl:news.length=m*size) (F3: ∀j u,news[j]? =some u→w.cell? (a.add j)=some u)
  (TP:n+m≤maxLen) (p9:(n+m)*bytes≤140737488355328):
  ∃v' w',(auP #[t,t] ty #[.slice (some b) n n,.slice (some a) m c]).run P w= .ok v' w'∧w'.jF e size v' (n+m) (xs++news)∧w.grownBy w' none∧v'.ownBlock=some w.heap.size:=by
 subst eZ;subst wG;have hlen:(xs++news).length=(n+m)*i.size:=by rw [aum,IC,hl,Nat.add_mul]
 have mn:=grownCap_ge w (n+m) n e;have P6:grownCap w (n+m) n e≤maxLen:=grownCap_le_maxLen w (n+m) n e TP;have hr:=run_append_grow (P:=P) w t ty e i z ht hi hz b n n xs IC holds a m c news hl F3 (by omega) (by simp only [maxLen]at TP;omega) (growslice_fits (by omega) p9);refine⟨_,_,hr,⟨hlen,.inr ⟨w.heap.size,0,_,_,rfl,⟨e,_,heap_alloc_new w.drew _,.zero _⟩,mn,P6,?_,?_⟩⟩,⟨rfl,rfl,rfl,by simp,fun k hk _=>heap_alloc_old w.drew _ hk⟩,rfl⟩
 ·simp only [Array.size_append,List.size_toArray,size_zeroCells,qJ,IC,hl,←Nat.add_mul,Nat.zero_add];intro _;apply Nat.le_of_eq;congr 1;omega
 ·simp only [Array.toList_append,List.drop_zero]
  first
   | (rw [←hlen];exact List.take_left)
   | (rw [List.append_assoc,←List.append_assoc,←hlen];exact List.take_left)
theorem oP(t ty e:TypeId)(i:TypeInfo)(z:Value)(size bytes:Nat)(ht:P.underlying t=some (.slice e))(hi:P.info? e=some i)(hz:i.zero=some z)
  (eZ:i.size=size) (wG:i.bytes=bytes) (qJ:z.cells.size=size) (gx:0<size)
  (v:Value) (n:Nat) (xs:List Value) (du:w.jF e size v n xs)
  (a:Addr) (m c:Nat) (news:List Value) (hl:news.length=m*size) (F3: ∀j u,news[j]? =some u→w.cell? (a.add j)=some u) (h1: ∀u∈news,u.oneCell'=true)
  (TP:n+m≤maxLen) (p9:(n+m)*bytes≤140737488355328):
  ∃v' w',(auP #[t,t] ty #[v,.slice (some a) m c]).run P w= .ok v' w'∧w'.jF e size v' (n+m) (xs++news)∧w.grownBy w' v.ownBlock∧
   (v'.ownBlock=v.ownBlock∨v'.ownBlock=some w.heap.size):=by
 rcases du.2 with⟨rfl,rfl⟩ | ⟨g,o,cap,cur,rfl,⟨t',fz,hg,ID⟩,Fp,Ur,nU,CO⟩
 ·have hx:xs=[]:=auH (by simpa using du.1);subst hx;obtain⟨v',w',r1,r2,r3,_,r5⟩:=run_append_own_at (P:=P) w 0 t ty e i z size bytes ht hi hz eZ wG qJ gx (.slice none 0 0) 0 [] (World.ownsRow_nil w 0 e size) a m c news hl F3 h1 TP p9 (Nat.zero_le _);exact⟨v',w',r1,Mm r2,r3,r5⟩
 ·subst eZ;subst wG;have hlen:(xs++news).length=(n+m)*i.size:=by rw [aum,du.1,hl,Nat.add_mul]
  by_cases vr:n+m≤cap
  ·by_cases IN:m=0
   ·subst IN;have:news=[]:=auH (by simpa using hl);subst this;refine⟨_,w,?_,by simpa using du,⟨rfl,rfl,rfl,Nat.le_refl _,fun _ _ _=>rfl⟩,.inl rfl⟩;simp [auP,run_underlying ht,sizeOf,typeInfo,hi,Builtin.lenOf,Builtin.firstCells,Fp,storeCells,loadCells,loadCellsFrom]
   have nU:=nU (by omega);have hmul:(n+m)*i.size≤cap*i.size:=Nat.mul_le_mul_right _ vr;rw [Nat.add_mul]at hmul;have rM:o+n*i.size+news.length≤cur.size:=by omega
   have hfc:=run_firstCells_some (P:=P) w i.size m a m c news hl F3;have qH:=fX (P:=P) g (o+n*i.size) t' fz news 0 cur w hg ID (by simpa using rM) h1;simp only [Nat.add_zero]at qH;have hr:(auP #[t,t] ty #[.slice (some ⟨g,o,none⟩) n cap,.slice (some a) m c]).run P w= .ok (.slice (some ⟨g,o,none⟩) (n+m) cap) (w.setRow g (cur.toList.take (o+n*i.size)++news++cur.toList.drop (o+n*i.size+news.length)).toArray):=by
    simp [auP,run_underlying ht,sizeOf,typeInfo,hi,Builtin.lenOf,vr,hfc,fV,qH]
   refine⟨_,_,hr,⟨hlen,.inr ⟨g,o,cap,_,rfl,⟨t',fz,setRow_heap w g cur _ t' _ hg,by refine Eq.mp (congrArg (ru · fz) ?_) ID;simp only [List.size_toArray,aum,List.length_take,List.length_drop,Array.length_toList]at rM ⊢;omega⟩,vr,Ur,?_,?_⟩⟩,⟨rfl,rfl,rfl,by simp,fun k _ hk=>setRow_other w g k _ (fun e=>hk (by simp [Value.ownBlock,e]))⟩,Or.inl rfl⟩
   ·simp only [List.size_toArray,aum,List.length_take,List.length_drop,Array.length_toList];intro _;omega
   ·have:=rG cur.toList news o (n*i.size) ((n+m)*i.size) (by rw [Nat.add_mul];omega) (by rw [Nat.add_mul];simp;omega);simp only;rw [this,List.take_take,Nat.min_eq_left (by rw [Nat.add_mul];omega),CO,hl,←Nat.add_mul,List.drop_eq_nil_of_le (by rw [List.length_take];exact Nat.min_le_left _ _),List.append_nil]
  ·have mn:=grownCap_ge w (n+m) cap e;have P6:grownCap w (n+m) cap e≤maxLen:=grownCap_le_maxLen w (n+m) cap e TP;have hr:=run_append_grow (P:=P) w t ty e i z ht hi hz ⟨g,o,none⟩ n cap xs du.1 (kH du) a m c news hl F3 (by omega) (by simp only [maxLen]at TP;omega) (growslice_fits (by omega) p9);refine⟨_,_,hr,⟨hlen,.inr ⟨w.heap.size,0,_,_,rfl,⟨e,_,heap_alloc_new w.drew _,.zero _⟩,mn,P6,?_,?_⟩⟩,⟨rfl,rfl,rfl,by simp,fun k hk _=>heap_alloc_old w.drew _ hk⟩,Or.inr rfl⟩
   ·simp only [Array.size_append,List.size_toArray,size_zeroCells,qJ,du.1,hl,←Nat.add_mul,Nat.zero_add];intro _;apply Nat.le_of_eq;congr 1;omega
   ·simp only [Array.toList_append,List.drop_zero]
    first
     | (rw [←hlen];exact List.take_left)
     | (rw [List.append_assoc,←List.append_assoc,←hlen];exact List.take_left)
theorem DN(hT:bB P T=true)(iz:ρ.Ok){ts:TypeId}{tt te:TI}(ht:aU T ts=some tt){e:Nat}(hk:tt.k= .slice e)(jf:aU T e=some te){s:Nat}(hs:te.size=s)(yS:0<s)
  {v j j' b cap:Nat} {n:E} {aA aS:List bP} {cs:List SV} {wr:Bool} (hj:hp[j]? =some (.cC true v e s n aA)) (hS:((Ck.cC true v e s n aA).den ρ).p w (S j))
  (_:hp[j']? =some (.row b wr cs)) (MI:((Ck.row b wr cs).den ρ).p w (S j')) (hw:s=b_ aA) (hlen:kM cs=s) (kE:cs.all SV.one=true) (lY:lQ n cs aA=some aS)
  (h0:0≤n.den ρ 0) (IP:(n.den ρ 0+1)*(max 1 te.bytes:Nat)≤140737488355328) (ty:TypeId):
  Did P ρ w hp S nb nv ((do pure (.value (←auP #[ts,ts] ty #[(SV.vv v).val ρ,.slice (some ⟨ρ.bv.getD b 0,0,none⟩) 1 cap])):Sem Next).run P w)
   {val:= .vv nv,iD:= .app j (.cC true nv e s (dP n (.lit 1)) aS)}:=by
 obtain⟨rfl,gD⟩:=aC hT ht;obtain⟨rfl,dc⟩:=aC hT jf;have dE:=gD.kind;rw [hk]at dE;have hu:=bK dE;obtain⟨i,hi,gx,wG,z,hz,hc⟩:=dc.info;have qJ:z.cells.size=te.size:=by rw [←Array.length_toList,←hc ρ,bu,dc.Cf]
 obtain⟨du,mw⟩:=hS;simp only [if_true]at du;have amu:((n.den ρ 0).toNat+1)*(max 1 te.bytes)≤140737488355328:=by
  have:(((n.den ρ 0).toNat+1:Nat):Int)=n.den ρ 0+1:=by omega
  rw [←this]at IP;have h2:((((n.den ρ 0).toNat+1)*(max 1 te.bytes):Nat):Int)≤((140737488355328:Nat):Int):=by rw [Int.natCast_mul];exact IP
  exact Int.ofNat_le.1 h2
 have zl:((n.den ρ 0).toNat+1)*1≤((n.den ρ 0).toNat+1)*max 1 te.bytes:=Nat.mul_le_mul_left _ (Nat.le_max_left _ _);have DO:((n.den ρ 0).toNat+1)*te.bytes≤((n.den ρ 0).toNat+1)*max 1 te.bytes:=Nat.mul_le_mul_left _ (Nat.le_max_right _ _);obtain⟨v',w',hr,how,hg,Kv⟩:=oP (P:=P) (w:=w) tt.t ty te.t i z s te.bytes hu hi hz (by rw [gx,hs]) wG (by rw [qJ,hs]) yS
  _ _ _ du ⟨ρ.bv.getD b 0,0,none⟩ 1 cap (SV.ao ρ cs) (by rw [bu,Nat.one_mul];exact hlen)
  (fun k u hk=>j7 MI 0 k u hk) (nr ρ kE iz) (Nat.le_trans (show(n.den ρ 0).toNat+1≤140737488355328 by omega) (by unfold maxLen;omega)) (by omega)
 have gU:aG ρ ((dP n (.lit 1)).den ρ 0).toNat aS=aG ρ (n.den ρ 0).toNat aA++SV.ao ρ cs:=by
  have e1:((dP n (.lit 1)).den ρ 0).toNat=(n.den ρ 0).toNat+1:=by
   rw [bG];simp only [E.den];omega
  obtain⟨p1,p2,p3,p4⟩:=jv ρ lY;rw [e1,F2,p4,MH aS aA _ (fun k hk=>p3 k (by omega))];congr 1;rw [List.drop_eq_nil_of_le,List.append_nil];rw [show(rowAt ρ aA (n.den ρ 0).toNat).length=b_ aA from dQ ρ aA _,bu,←hw];exact Nat.le_of_eq hlen.symm
 refine⟨te.t,s,_,aS,v',w',fun k=>v'.ownBlock=some k,rfl,rfl,by simp only [SV.val,auC,hr,aut,auI],?_,⟨_,hj,rfl⟩,?_,?_,⟨?_,fun k=>⟨fun h=>⟨h,.inl rfl⟩,fun h=>h.1⟩⟩,?_⟩
 ·rcases how.2 with⟨rfl,_⟩ | ⟨g,o,cap,cur,rfl,_⟩<;>rfl
 ·exact⟨hg.os,hg.tape,hg.output,hg.size⟩
 ·intro k hk hn;refine hg.block k hk fun he=>hn ((mw k).2 ⟨he.symm,.inl rfl⟩)
 ·simp only [if_true];have e1:((dP n (.lit 1)).den ρ 0).toNat=(n.den ρ 0).toNat+1:=by
   rw [bG];simp only [E.den];omega
  rw [gU,e1];exact how
 ·intro k hk;rcases Kv with h | h
  ·left;rw [mw k,←h];exact⟨hk,.inl rfl⟩
  ·right;rw [hk]at h;cases h;exact⟨Nat.le_refl _,jr how hk⟩
theorem wU(hT:bB P T=true)(iz:ρ.Ok){ts:TypeId}{tt te:TI}(ht:aU T ts=some tt){e:Nat}(hk:tt.k= .slice e)(jf:aU T e=some te){s:Nat}(hs:te.size=s)(yS:0<s)
  {j' b cap:Nat} {aA aS:List bP} {cs:List SV} {wr:Bool}
  (MI:((Ck.row b wr cs).den ρ).p w (S j')) (hw:s=b_ aA) (hlen:kM cs=s) (kE:cs.all SV.one=true) (lY:lQ (.lit 0) cs aA=some aS)
  (IP:te.bytes≤140737488355328) (ty:TypeId):
  Did P ρ w hp S nb nv ((do pure (.value (←auP #[ts,ts] ty #[SV.bx.val ρ,.slice (some ⟨ρ.bv.getD b 0,0,none⟩) 1 cap])):Sem Next).run P w)
   {val:= .vv nv,iD:= .own (.cC true nv e s (.lit 1) aS)}:=by
 obtain⟨rfl,gD⟩:=aC hT ht;obtain⟨rfl,dc⟩:=aC hT jf;have dE:=gD.kind;rw [hk]at dE;have hu:=bK dE;obtain⟨i,hi,gx,wG,z,hz,hc⟩:=dc.info;have qJ:z.cells.size=te.size:=by rw [←Array.length_toList,←hc ρ,bu,dc.Cf]
 obtain⟨v',w',hr,how,hg,Kv⟩:=oP (P:=P) (w:=w) tt.t ty te.t i z s te.bytes hu hi hz (by rw [gx,hs]) wG (by rw [qJ,hs]) yS
  (.slice none 0 0) 0 [] (np w te.t s) ⟨ρ.bv.getD b 0,0,none⟩ 1 cap (SV.ao ρ cs) (by rw [bu,Nat.one_mul];exact hlen)
  (fun k u hk=>j7 MI 0 k u hk) (nr ρ kE iz) (by unfold maxLen;omega) (by omega)
 have gU:aG ρ 1 aS=SV.ao ρ cs:=by
  obtain⟨p1,p2,p3,p4⟩:=jv ρ lY;have e0:aG ρ 1 aS=aG ρ 0 aS++rowAt ρ aS 0:=F2 aS 0;rw [e0];simp only [E.den,Int.toNat_zero]at p4;rw [p4,List.drop_eq_nil_of_le,List.append_nil]
  ·simp [aG,aM]
  ·rw [show(rowAt ρ aA 0).length=b_ aA from dQ ρ aA _,bu,←hw];exact Nat.le_of_eq hlen.symm
 refine⟨te.t,s,_,aS,v',w',fun k=>v'.ownBlock=some k,rfl,rfl,by simp only [SV.val,auC,hr,aut,auI],?_,⟨hg.os,hg.tape,hg.output,hg.size⟩,fun k hk=>hg.block k hk (by simp [Value.ownBlock]),⟨?_,fun k=>⟨fun h=>⟨h,.inl rfl⟩,fun h=>h.1⟩⟩,?_⟩
 ·rcases how.2 with⟨rfl,_⟩ | ⟨g,o,cap,cur,rfl,_⟩<;>rfl
 ·simp only [if_true];have e1:((E.lit 1).den ρ 0).toNat=1:=rfl;rw [e1,gU];simpa using how
 ·intro k hk;rcases Kv with h | h
  ·rw [hk]at h;cases h
  ·rw [hk]at h;cases h;exact⟨Nat.le_refl _,jr how hk⟩
end
section
variable {P:Program} {ρ:Env} {w:World} {look:Nat→Option SV} {bH:Operand→Value} {hp:List Ck} {S:Nat→Nat→Prop} {nb nv:Nat} {T:List TI}
theorem bf{a b:E}(h: ∀c∈eG a b,c.prop ρ):a.den ρ 0≤b.den ρ 0:=by
 unfold eG at h;split at h
 ·rename_i he;subst he;exact Int.le_refl _
 ·have key:(xS a b).den ρ=true:=by
   by_cases hl:xS a b= .lit true
   ·rw [hl];rfl
   ·exact(BE.bQ ρ _).2 (h _ (auR.2 ⟨by simp,by simpa using hl⟩))
  rw [iX]at key;exact of_decide_eq_true key
theorem yT{a b:E}(h: ∀c∈[IB a b].filter fun b=>b != .lit true,c.prop ρ):a.den ρ 0<b.den ρ 0:=by
 have key:(IB a b).den ρ=true:=by
  by_cases hl:IB a b= .lit true
  ·rw [hl];rfl
  ·exact(BE.bQ ρ _).2 (h _ (auR.2 ⟨by simp,by simpa using hl⟩))
 rw [vd]at key;exact of_decide_eq_true key
theorem bA{α:Type}{q:α→Prop}{a b:List α}(h: ∀c∈a++b,q c):(∀c∈a,q c)∧∀c∈b,q c:=
 ⟨fun c hc=>h c (List.mem_append_left _ hc),fun c hc=>h c (List.mem_append_right _ hc)⟩
theorem oQ(a:Addr):a.add 0=a:=by simp [Addr.add]
theorem DP(a:Option Addr):a.map (·.add 0)=a:=by cases a<;>simp [oQ]
structure acO (s:Nat) (v x:Value) (n L N:Int) (mx:Option Int):Prop where
 lo:0≤L
 hi:L+N≤n
 top: ∀m,mx=some m→L+N≤m∧m≤n
 is: ∃a c k,v= .slice a n.toNat c∧n.toNat≤c∧x= .slice (a.map (·.add k)) N.toNat ((mx.map ag).getD c - L.toNat)∧(L.toNat<(mx.map ag).getD c∨L=0→k=L.toNat*s)
abbrev Part.den(ρ:Env)(p:Part):Int×Int×Option Int:=(p.lo.den ρ 0,p.len.den ρ 0,p.mx.map fun m=>m.den ρ 0)
def nA(ρ:Env)(s:Nat)(v x:Value)(n:E)(p:Part):Prop:=acO s v x (n.den ρ 0) (p.lo.den ρ 0) (p.len.den ρ 0) (p.mx.map fun m=>m.den ρ 0)
theorem nA.whole{s:Nat}{v:Value}{n:E}(h: ∃a c,v= .slice a (n.den ρ 0).toNat c∧(n.den ρ 0).toNat≤c):nA ρ s v v n ⟨.lit 0,n,none⟩:=by
 obtain⟨a,c,hv,hc⟩:=h;refine⟨by simp [E.den],by simp [E.den],by simp,a,c,0,hv,hc,?_,?_⟩
 ·rw [DP];simpa [E.den] using hv
 ·simp [E.den]
theorem nA.step{s:Nat}{v x:Value}{n:E}{p:Part}(h:nA ρ s v x n p)(c:Cut)(cd: ∀b∈(oh n p c).2,b.prop ρ):
  nA ρ s v (aF s x (c.lo.den ρ 0).toNat (c.hi.den ρ 0).toNat (c.mx.map fun m=>(m.den ρ 0).toNat)) n (oh n p c).1∧
  0≤c.lo.den ρ 0∧c.lo.den ρ 0≤c.hi.den ρ 0∧(∀m,c.mx=some m→c.hi.den ρ 0≤m.den ρ 0)∧
  ∃a N C,x= .slice a N C∧N=(p.len.den ρ 0).toNat∧(c.mx=none→(c.hi.den ρ 0).toNat≤C)∧∀m,c.mx=some m→(m.den ρ 0).toNat≤C:=by
 obtain⟨lo,hi,mx⟩:=c;obtain⟨pl,pn,pm⟩:=p;obtain⟨h1,h2,h3,a,c,k,rfl,hc,rfl,hk⟩:=h;simp only [oh]at cd ⊢;obtain⟨ye,Ig⟩:=bA cd;obtain⟨hv0,ye⟩:=bA ye;have e0:=bf hv0;have e1:=bf ye;simp only [E.den]at e0;simp only at h1 h2 h3 hk;generalize hL:pl.den ρ 0=L at*;generalize hN:pn.den ρ 0=N at*;generalize hn:n.den ρ 0=nn at*;generalize hl:lo.den ρ 0=l at*;generalize hh:hi.den ρ 0=hd at*;cases mx with
 | none=>
  cases pm with
  | none=>
   simp only []at Ig;have e2:=bf Ig;rw [bG,hL,hh,hn]at e2;simp only [Option.map_none,Option.getD_none]at hk ⊢;refine⟨⟨by simp only [bG,hL,hl];omega,by simp only [bG,fE,hL,hl,hh,hn];omega,by simp,a,c,k+if c - L.toNat=l.toNat then 0 else l.toNat*s,by rw [hn],by rw [hn];exact hc,?_,?_⟩,e0,e1,by simp,_,_,_,rfl,rfl,fun _=>by omega,by simp⟩
   ·simp only [aF,Option.map_none,Option.getD_none,bG,fE,hL,hl,hh];congr 1
    ·split
     ·simp
     ·cases a<;>simp [dM]
    ·omega
    ·omega
   ·simp only [bG,hL,hl];intro yU;rcases yU with yU | yU
    ·simp only [Option.map_none,Option.getD_none]at yU;rw [if_neg (by omega),hk (.inl (by omega)),←Nat.add_mul];congr 1;omega
    ·have yP:l=0:=by omega
     have hL0:L=0:=by omega
     subst yP hL0;rw [hk (.inr rfl)];simp
  | some m0=>
   simp only []at Ig;have e2:=bf Ig;rw [bG,hL,hh]at e2;simp only [Option.map_some,au8]at hk h3 ⊢;have h3':=h3 _ rfl;generalize hm:m0.den ρ 0=m at*;refine⟨⟨by simp only [bG,hL,hl];omega,by simp only [bG,fE,hL,hl,hh,hn];omega,?_,a,c,k+if m.toNat - L.toNat=l.toNat then 0 else l.toNat*s,by rw [hn],by rw [hn];exact hc,?_,?_⟩,e0,e1,by simp,_,_,_,rfl,rfl,fun _=>by omega,by simp⟩
   ·simp only [Option.map_some,bG,fE,hL,hl,hh,hn,hm,auq];rintro _ rfl;omega
   ·simp only [aF,Option.map_none,Option.getD_none,au8,Option.map_some,bG,fE,hL,hl,hh,hm];congr 1
    ·split
     ·simp
     ·cases a<;>simp [dM]
    ·omega
    ·omega
   ·simp only [bG,hL,hl,Option.map_some,au8,hm];intro yU;rcases yU with yU | yU
    ·rw [if_neg (by omega),hk (.inl (by omega)),←Nat.add_mul];congr 1;omega
    ·have yP:l=0:=by omega
     have hL0:L=0:=by omega
     subst yP hL0;rw [hk (.inr rfl)];simp
 | some mq=>
  have e3:(hd≤mq.den ρ 0)∧L+mq.den ρ 0≤nn∧∀m0,pm=some m0→L+mq.den ρ 0≤m0.den ρ 0:=by
   cases pm with
   | none=>
    simp only []at Ig;obtain⟨g1,g2⟩:=bA Ig;have g1:=bf g1;have g2:=bf g2;rw [bG,hL,hn]at g2;rw [hh]at g1;exact⟨g1,g2,by simp⟩
   | some m0=>
    simp only []at Ig;obtain⟨g1,g2⟩:=bA Ig;have g1:=bf g1;have g2:=bf g2;rw [bG,hL]at g2;rw [hh]at g1;have:L+N≤m0.den ρ 0∧m0.den ρ 0≤nn:=h3 _ rfl;refine⟨g1,by omega,?_⟩;rintro _ ⟨⟩;exact g2
  obtain⟨e3,e4,e5⟩:=e3;generalize hm:mq.den ρ 0=m at*;have MJ:L.toNat+m.toNat≤(Option.map ag (Option.map (fun m=>E.den ρ m 0) pm)).getD c:=by
   cases pm with
   | none=>simp only [Option.map_none,Option.getD_none];omega
   | some m0=>
    have:=e5 _ rfl;simp only [Option.map_some,au8];omega
  generalize (Option.map ag (Option.map (fun m=>E.den ρ m 0) pm)).getD c=tp at*;simp only [Option.map_some];refine⟨⟨by simp only [bG,hL,hl];omega,by simp only [bG,fE,hL,hl,hh,hn];omega,?_,a,c,k+if m.toNat=l.toNat then 0 else l.toNat*s,by rw [hn],by rw [hn];exact hc,?_,?_⟩,e0,e1,?_,_,_,_,rfl,rfl,by simp,?_⟩
  ·simp only [Option.map_some,bG,fE,hL,hl,hh,hn,hm,auq];rintro _ rfl;omega
  ·simp only [aF,au8,Option.map_some,bG,fE,hL,hl,hh,hm];congr 1
   ·split
    ·simp
    ·cases a<;>simp [dM]
   ·omega
   ·omega
  ·simp only [bG,hL,hl,Option.map_some,au8,hm];intro yU;rcases yU with yU | yU
   ·rw [if_neg (by omega),hk (.inl (by omega)),←Nat.add_mul];congr 1;omega
   ·have yP:l=0:=by omega
    have hL0:L=0:=by omega
    subst yP hL0;rw [hk (.inr rfl)];simp
  ·rintro _ ⟨⟩;rw [hm];exact e3
  ·rintro _ ⟨⟩;rw [hm];omega
theorem yf{s:Nat}{v:Value}{n:E}: ∀(cs:List Cut) (x:Value) (p:Part),nA ρ s v x n p→(∀b∈(uh n cs p).2,b.prop ρ)→nA ρ s v (dS ρ s x cs) n (uh n cs p).1
 | [],_,_,h,_=>h
 | c::r,x,p,h,cd=>by
  simp only [uh]at cd ⊢;obtain⟨h1,h2⟩:=bA cd;exact yf r _ _ (h.step c h1).1 h2
theorem pA{md:Bool}{t s n:Nat}{v:Value}{cs:List Value}{S:Nat→Prop}(h:(aB md t s v n cs).p w S): ∃a c,v= .slice a n c∧n≤c:=by
 obtain⟨h0,_⟩:=h;cases md with
 | true=>
  simp only [if_true]at h0;rcases h0.2 with⟨rfl,rfl⟩ | ⟨g,o,cap,cur,rfl,_,Fp,_⟩
  ·exact⟨_,_,rfl,Nat.le_refl _⟩
  ·exact⟨_,_,rfl,Fp⟩
 | false=>
  simp only [Bool.false_eq_true,if_false]at h0;obtain⟨_,a,m,c',rfl,rfl,Us,_⟩:=h0;exact⟨_,_,rfl,Us⟩
theorem gf{x:SV}{r:Rt}(h:ic hp x=some r)(db:Reads hp ρ w S [r.j])(cd: ∀b∈r.vcs,b.prop ρ):
  hp[r.j]? =some (.cC r.md r.v r.t r.s r.n r.aA)∧nA ρ r.s (ρ.vv.getD r.v V1.nil).v (x.val ρ) r.n r.p:=by
 unfold ic at h;split at h
 ·rename_i v;split at h
  ·rename_i j md v' t s n aA hf;cases h;obtain⟨hj,dH⟩:=cZ hf;simp only [Ck.mI,beq_iff_eq]at dH;subst dH;have hS:=db j (by simp) _ hj;exact⟨hj,nA.whole (pA hS)⟩
  ·cases h
 ·rename_i v cs s';split at h
  ·rename_i j md v' t s n aA hf;split at h
   ·rename_i hs;subst hs;cases h;obtain⟨hj,dH⟩:=cZ hf;simp only [Ck.mI,beq_iff_eq]at dH;subst dH;have hS:=db j (by simp) _ hj;exact⟨hj,yf cs _ _ (nA.whole (pA hS)) cd⟩
   ·cases h
  ·cases h
 ·cases h
end
def ig:Option Value→Option Int→Prop
 | none,none=>True
 | some v,some i=> ∃k,v= .int k i
 | _,_=>False
section
variable {P:Program} {ρ:Env} {w:World} {look:Nat→Option SV} {bH:Operand→Value} {hp:List Ck} {S:Nat→Nat→Prop} {nb nv:Nat} {T:List TI}
theorem kp(ui:vm ρ look bH){o:Option Operand}{l:Option E}(h:Ag look o=some l):ig (o.map bH) (l.map fun e:E=>e.den ρ 0):=by
 unfold Ag at h;split at h
 ·cases h;exact True.intro
 ·split at h
  ·rename_i k e he;cases h;exact⟨k,eH ui he⟩
  ·cases h
theorem uj(isS:Bool)(N C:Nat){lo hi mx:Option Value}{l h m:Option Int}(hl:ig lo l)(hh:ig hi h)(hm:ig mx m)(hx:m.isSome=true→h.isSome=true)
  (h0:0≤l.getD 0) (h1:l.getD 0≤h.getD (N:Int)) (h2: ∀x,m=some x→h.getD (N:Int)≤x∧x≤C) (h3:m=none→h.getD (N:Int)≤C):
  (au3 isS N C lo hi mx).run P w= .ok ((l.getD 0).toNat,(h.getD (N:Int)).toNat,(m.map ag).getD C) w:=by
 have hb:=fun(k:IntKind) (i:Int) (y:Nat) (code:BoundsCode) (a:0≤i) (b:i≤y)=>run_sliceBound (P:=P) (w:=w) k i y code a b
 cases m with
 | none=>
  have h3:=h3 rfl;cases mx with
  | some v=>exact hm.elim
  | none=>
   cases h with
   | none=>
    cases hi with
    | some v=>exact hh.elim
    | none=>
     cases l with
     | none=>
      cases lo with
      | some v=>exact hl.elim
      | none=>simp [au3]
     | some l=>
      cases lo with
      | none=>exact hl.elim
      | some v=>
       obtain⟨k,rfl⟩:=hl;simp only [au8,Option.getD_none]at h0 h1;simp [au3,hb k l N _ h0 h1]
   | some h=>
    cases hi with
    | none=>exact hh.elim
    | some v=>
     obtain⟨kh,rfl⟩:=hh;simp only [au8]at h1 h3;have hhn:(h.toNat:Int)=h:=Int.toNat_of_nonneg (by omega);cases l with
     | none=>
      cases lo with
      | some v=>exact hl.elim
      | none=>
       simp only [Option.getD_none]at h1;simp [au3,hb kh h C _ h1 h3]
     | some l=>
      cases lo with
      | none=>exact hl.elim
      | some v=>
       obtain⟨k,rfl⟩:=hl;simp only [au8]at h0 h1;simp [au3,hb kh h C _ (by omega) h3,hb k l h.toNat _ h0 (by omega)]
 | some m=>
  obtain⟨g2,g3⟩:=h2 m rfl;cases mx with
  | none=>exact hm.elim
  | some v=>
   obtain⟨km,rfl⟩:=hm;cases h with
   | none=>simp at hx
   | some h=>
    cases hi with
    | none=>exact hh.elim
    | some v=>
     obtain⟨kh,rfl⟩:=hh;simp only [au8]at h1 g2;cases l with
     | none=>
      cases lo with
      | some v=>exact hl.elim
      | none=>
       simp only [Option.getD_none]at h1;simp [au3,hb km m C _ (by omega) g3,hb kh h m.toNat _ (by omega) (by omega)]
     | some l=>
      cases lo with
      | none=>exact hl.elim
      | some v=>
       obtain⟨k,rfl⟩:=hl;simp only [au8]at h0 h1;simp [au3,hb km m C _ (by omega) g3,hb kh h m.toNat _ (by omega) (by omega),hb k l h.toNat _ h0 (by omega)]
theorem p_(hT:bB P T=true){t:TypeId}{tt te:TI}(ht:aU T t=some tt){e:Nat}(hk:tt.k= .slice e)(jf:aU T e=some te)
  (a:Option Addr) (N C:Nat) {lo hi mx:Option Value} {l h m:Option Int} (hl:ig lo l) (hh:ig hi h) (hm:ig mx m) (hx:m.isSome=true→h.isSome=true)
  (h0:0≤l.getD 0) (h1:l.getD 0≤h.getD (N:Int)) (h2: ∀x,m=some x→h.getD (N:Int)≤x∧x≤C) (h3:m=none→h.getD (N:Int)≤C):
  (Instr.sliceAt t (.slice a N C) lo hi mx).run P w= .ok (aF te.size (.slice a N C) (l.getD 0).toNat (h.getD (N:Int)).toNat (m.map ag)) w:=by
 obtain⟨rfl,uO⟩:=aC hT ht;obtain⟨rfl,dc⟩:=aC hT jf;have dE:=uO.kind;rw [hk]at dE;have hu:=bK dE;have:=uj (P:=P) (w:=w) true N C hl hh hm hx h0 h1 h2 h3;simp [Instr.sliceAt,Instr.slice,run_underlying hu,this,dc.sizeOf w,aF]
theorem tw(hT:bB P T=true){t:TypeId}{tt te:TI}(ht:aU T t=some tt){n e:Nat}(hk:tt.k= .arr n e)(jf:aU T e=some te)
  (a:Addr) {lo hi mx:Option Value} {l h m:Option Int} (hl:ig lo l) (hh:ig hi h) (hm:ig mx m) (hx:m.isSome=true→h.isSome=true)
  (h0:0≤l.getD 0) (h1:l.getD 0≤h.getD (n:Int)) (h2: ∀x,m=some x→h.getD (n:Int)≤x∧x≤n) (h3:m=none→h.getD (n:Int)≤n):
  (Instr.sliceAt t (.pointer (some a)) lo hi mx).run P w= .ok (aF te.size (.slice (some a) n n) (l.getD 0).toNat (h.getD (n:Int)).toNat (m.map ag)) w:=by
 obtain⟨rfl,uO⟩:=aC hT ht;obtain⟨rfl,dc⟩:=aC hT jf;have dE:=uO.kind;rw [hk]at dE;have hu:=pz dE;have:=uj (P:=P) (w:=w) false n n hl hh hm hx h0 h1 h2 h3;simp only [Instr.sliceAt,auC,run_underlying hu,aut,Instr.sureAddr,auI,this,dc.sizeOf w,aF];congr 2;split<;>simp
theorem KC(b i0 n0 m0 s:Nat)(l h:Int)(m:Int)(h0:0≤l)(h1:l≤h)(h2:h≤m)(h3:l=0∨l<m):
  aF s (.slice (some ⟨b,i0*s,none⟩) n0 m0) l.toNat h.toNat (some m.toNat)= .slice (some ⟨b,(i0+l.toNat)*s,none⟩) (h - l).toNat (m - l).toNat:=by
 simp only [aF,au8];congr 1
 ·rcases h3 with rfl | h3
  ·simp [oQ]
  ·rw [if_neg (by omega),Option.map_some,fW,Nat.add_mul]
 ·omega
 ·omega
theorem rN(o:Option E)(d:E):(o.getD d).den ρ 0=(o.map fun e:E=>e.den ρ 0).getD (d.den ρ 0):=by cases o<;>rfl
theorem DQ{x v:SV}{c:Cut}{s:Nat}(h:Ah x c s=some v):
  v.val ρ=aF s (x.val ρ) (c.lo.den ρ 0).toNat (c.hi.den ρ 0).toNat (c.mx.map fun m=>(m.den ρ 0).toNat):=by
 unfold Ah at h;split at h
 ·cases h;rfl
 ·split at h
  ·rename_i hs;subst hs;cases h;simp only [SV.val,pg];rfl
  ·cases h
 ·cases h
theorem P7{l mm:E}(h: ∀b∈(if l= .lit 0 then []else [IB l mm].filter fun b=>b != .lit true),b.prop ρ):l.den ρ 0=0∨l.den ρ 0<mm.den ρ 0:=by
 split at h
 ·rename_i hl;subst hl;exact .inl rfl
 ·exact .inr (yT h)
theorem Ai(hT:bB P T=true){t:TypeId}{tt:TI}(gD:aU T t=some tt){x:SV}{l h m:Option E}{res:iC}(hs:Aj T hp tt.k x l h m=some res)
  {lo hi mx:Option Value} (hl:ig lo (l.map fun e:E=>e.den ρ 0)) (hh:ig hi (h.map fun e:E=>e.den ρ 0)) (hm:ig mx (m.map fun e:E=>e.den ρ 0))
  (db:Reads hp ρ w S res.rd) (cd: ∀b∈res.vcs,b.prop ρ):
  (Instr.sliceAt t (x.val ρ) lo hi mx).run P w= .ok (res.val.val ρ) w∧res.iD= .none:=by
 unfold Aj at hs;split at hs
 ·cases hs
 ·rename_i hmx;have hx:(m.map fun e:E=>e.den ρ 0).isSome=true→(h.map fun e:E=>e.den ρ 0).isSome=true:=by
   cases m<;>cases h<;>simp_all
  split at hs
  ·rename_i e b i s n cap hk;split at hs
   ·rename_i te jf;split at hs
    ·rename_i gx;subst gx;simp only [auq]at hs;subst hs;refine⟨?_,rfl⟩;simp only at cd;obtain⟨cd,q6⟩:=bA cd;obtain⟨cd,q5⟩:=bA cd;obtain⟨cd,q4⟩:=bA cd;obtain⟨cd,q3⟩:=bA cd;obtain⟨cd,q2⟩:=bA cd;obtain⟨q0,q1⟩:=bA cd;have q0:=bf q0;have q1:=bf q1;have q2:=bf q2;have q3:=bf q3;have q4:=bf q4;have q5:=bf q5;have q6:=P7 q6;simp only [rN,E.den]at q0 q1 q2 q3 q4 q5 q6;have e1:(SV.sl b i te.size n cap).val ρ= .slice (some ⟨ρ.bv.getD b 0,(i.den ρ 0).toNat*te.size,none⟩) (n.den ρ 0).toNat (cap.den ρ 0).toNat:=rfl;have hNn:((n.den ρ 0).toNat:Int)=n.den ρ 0:=Int.toNat_of_nonneg q5;have iR:=p_ (P:=P) (w:=w) hT gD hk jf (some ⟨ρ.bv.getD b 0,(i.den ρ 0).toNat*te.size,none⟩) (n.den ρ 0).toNat (cap.den ρ 0).toNat hl hh hm hx q1 (by rw [hNn];exact q2)
      (fun x hx=>by rw [hx]at q3 q4;rw [hNn];simp only [au8]at q3 q4;exact⟨q3,by omega⟩) (fun hx=>by rw [hx]at q3;rw [hNn];simp only [Option.getD_none]at q3;omega)
     rw [e1,iR,hNn];congr 1;have YL:aF te.size (.slice (some ⟨ρ.bv.getD b 0,(i.den ρ 0).toNat*te.size,none⟩) (n.den ρ 0).toNat (cap.den ρ 0).toNat) ((l.map fun e:E=>e.den ρ 0).getD 0).toNat
       ((h.map fun e:E=>e.den ρ 0).getD (n.den ρ 0)).toNat ((m.map fun e:E=>e.den ρ 0).map ag)=
       aF te.size (.slice (some ⟨ρ.bv.getD b 0,(i.den ρ 0).toNat*te.size,none⟩) (n.den ρ 0).toNat (cap.den ρ 0).toNat) ((l.map fun e:E=>e.den ρ 0).getD 0).toNat
       ((h.map fun e:E=>e.den ρ 0).getD (n.den ρ 0)).toNat (some ((m.map fun e:E=>e.den ρ 0).getD (cap.den ρ 0)).toNat):=by
      cases m<;>rfl
     rw [YL,KC _ _ _ _ _ _ _ _ q1 q2 q3 q6];simp only [SV.val,bG,fE,rN,E.den];congr 4;omega
    ·cases hs
   ·cases hs
  ·rename_i e hk;split at hs
   ·rename_i te jf;split at hs
    ·rename_i hz;cases hs;obtain⟨z1,z2,z3⟩:=hz;refine⟨?_,rfl⟩;have g1:(l.map fun e:E=>e.den ρ 0).getD 0=0:=by cases l with | none=>rfl | some l=>simp only [au8]at z1;subst z1;rfl
     have g2:(h.map fun e:E=>e.den ρ 0).getD 0=0:=by cases h with | none=>rfl | some l=>simp only [au8]at z2;subst z2;rfl
     have g3:(m.map fun e:E=>e.den ρ 0).getD 0=0:=by cases m with | none=>rfl | some l=>simp only [au8]at z3;subst z3;rfl
     have iR:=p_ (P:=P) (w:=w) hT gD hk jf none 0 0 hl hh hm hx (by rw [g1];exact Int.le_refl _) (by rw [g1];simp only [Int.natCast_zero,g2];exact Int.le_refl _)
      (fun x hx=>by rw [hx]at g3;simp only [au8]at g3;subst g3;simp only [Int.natCast_zero,g2];exact⟨Int.le_refl _,Int.le_refl _⟩) (fun _=>by simp only [Int.natCast_zero,g2];exact Int.le_refl _)
     rw [show(SV.bx).val ρ= .slice none 0 0 from rfl,iR];congr 1;simp only [g1,Int.natCast_zero,g2];cases m with
     | none=>simp [aF]
     | some m=>simp only [Option.map_some,au8]at g3;simp [aF,g3]
    ·cases hs
   ·cases hs
  ·rename_i e hk _ _;split at hs
   ·rename_i te r jf hr;split at hs
    ·rename_i gx;dsimp only at hs;split at hs
     ·rename_i v hv;cases hs;refine⟨?_,rfl⟩;simp only at cd;obtain⟨ye,Ig⟩:=bA cd;obtain⟨hj,fi⟩:=gf hr db ye;obtain⟨h1,h2,h3,h4,a,N,C,IQ,hN,hC,hCm⟩:=fi.step _ Ig;rw [DQ hv,IQ];simp only [rN,E.den]at h2 h3 h4 hC ⊢;have hxN:(h.map fun e:E=>e.den ρ 0).getD (r.p.len.den ρ 0)=(h.map fun e:E=>e.den ρ 0).getD (N:Int)∨(h=none∧r.p.len.den ρ 0≤N):=by
       cases h with
       | none=>right;exact⟨rfl,by omega⟩
       | some h=>left;rfl
      have hxN:(h.map fun e:E=>e.den ρ 0).getD (N:Int)=(h.map fun e:E=>e.den ρ 0).getD (r.p.len.den ρ 0):=by
       rcases hxN with h | ⟨rfl,hle⟩
       ·exact h.symm
       ·simp only [Option.map_none,Option.getD_none]at h3 ⊢;omega
      have iR:=p_ (P:=P) (w:=w) hT gD hk jf a N C hl hh hm hx h2 (by rw [hxN];exact h3)
       (fun x hx=>by
        rw [hxN];rw [aus]at hx;obtain⟨me,hme,rfl⟩:=hx;have:=h4 me hme;have:=hCm me hme;exact⟨h4 me hme,by omega⟩)
       (fun hx=>by
        rw [hxN];have:=hC (by simpa using hx);omega)
      rw [iR,hxN,gx];congr 2;cases m<;>rfl
     ·cases hs
    ·cases hs
   ·cases hs
  ·rename_i n e v i s c hk;split at hs
   ·rename_i te j md v' t' s' m' aA jf hf;cases hs;obtain⟨hj,dH⟩:=cZ hf;simp only [Ck.mI,beq_iff_eq]at dH;subst dH;have hS:=db j (by simp) _ hj;obtain⟨h0,h1⟩:=dL ρ cd;obtain⟨a,cp,he⟩:=ny hS (by omega);have e2:(SV.pv v i s c).val ρ= .pointer (some (a.add ((i.den ρ 0).toNat*s+c))):=by rw [SV.val,he];rfl
    refine⟨?_,rfl⟩;have iR:=tw (P:=P) (w:=w) hT gD hk jf (a.add ((i.den ρ 0).toNat*s+c)) hl hh hm hx (by simp) (by simp) (by simp) (by simp);rw [e2,iR];simp only [SV.val,he,zP];simp [aF,oQ]
   ·cases hs
  ·rename_i n e b c hk;split at hs
   ·rename_i te jf;split at hs
    ·rename_i gx;obtain⟨gx,ahf⟩:=gx;simp only [auq]at hs;subst hs;refine⟨?_,rfl⟩;simp only at cd;obtain⟨cd,q6⟩:=bA cd;obtain⟨cd,q4⟩:=bA cd;obtain⟨cd,q3⟩:=bA cd;obtain⟨q1,q2⟩:=bA cd;have q1:=bf q1;have q2:=bf q2;have q3:=bf q3;have q4:=bf q4;have q6:=P7 q6;simp only [rN,E.den]at q1 q2 q3 q4 q6;have hc:c=c/te.size*te.size:=by
      have:=Nat.div_add_mod c te.size;rw [ahf,Nat.add_zero,Nat.mul_comm]at this;exact this.symm
     have e1:(SV.ptr b c).val ρ= .pointer (some ⟨ρ.bv.getD b 0,c/te.size*te.size,none⟩):=by
      rw [←hc];rfl
     have iR:=tw (P:=P) (w:=w) hT gD hk jf ⟨ρ.bv.getD b 0,c/te.size*te.size,none⟩ hl hh hm hx q1 q2
      (fun x hx=>by rw [hx]at q3 q4;simp only [au8]at q3 q4;exact⟨q3,q4⟩) (fun hx=>by rw [hx]at q3;simp only [Option.getD_none]at q3;exact q3)
     rw [e1,iR];congr 1;have YL:aF te.size (.slice (some ⟨ρ.bv.getD b 0,c/te.size*te.size,none⟩) n n) ((l.map fun e:E=>e.den ρ 0).getD 0).toNat
       ((h.map fun e:E=>e.den ρ 0).getD (n:Int)).toNat ((m.map fun e:E=>e.den ρ 0).map ag)=
       aF te.size (.slice (some ⟨ρ.bv.getD b 0,c/te.size*te.size,none⟩) n n) ((l.map fun e:E=>e.den ρ 0).getD 0).toNat
       ((h.map fun e:E=>e.den ρ 0).getD (n:Int)).toNat (some ((m.map fun e:E=>e.den ρ 0).getD (n:Int)).toNat):=by
      cases m<;>simp [aF]
     rw [YL,KC _ _ _ _ _ _ _ _ q1 q2 q3 q6];simp only [SV.val,bG,fE,rN,E.den];congr 4;generalize c/te.size=q;omega
    ·cases hs
   ·cases hs
  ·cases hs
end
end Go.RX
