/- A reflective symbolic executor, part 15h: zeros, put behind an owned slice. · A reflective symbolic executor, part 15i: a full row of integers, or of values that are named, with something put behind it. -/
import Derived.Test.YtfnaoeleljhmhaaGreatRxOe

namespace Go.RX
variable {P:Program} {w:World}
theorem run_zeros_fit(t ti ty e:TypeId)(kt:IntKind)(i:TypeInfo)(z:Value)(ht:P.underlying t=some (.slice e))(hti:P.underlying ti=some (.int kt))(hi:P.info? e=some i)(hz:i.zero=some z)
  (k:IntKind) (m:Nat) (g o:Nat) (n cap:Nat) (hsz:0<i.size) (hm:0<m) (hw:IntKind.i64.wrap (m:Int)=m) (hb: ¬(2^48:Int)<(m:Int)*i.bytes) (hroom:n+m≤cap) {w':World}
  (hst:(storeCells ⟨g,o+n*i.size,none⟩ (Builtin.zeroCells z.cells m).toList).run P w= .ok () w'):
  (Builtin.append_ #[t,ti] ty #[.slice (some ⟨g,o,none⟩) n cap,.int k (m:Int)]).run P w= .ok (.slice (some ⟨g,o,none⟩) (n+m) cap) w':=by
 have h0: ¬(m:Int)<0:=by omega
 have hne: ¬m*i.size=0:=Nat.ne_of_gt (Nat.mul_pos hm hsz);have hb': ¬(281474976710656:Int)<(m:Int)*i.bytes:=hb;simp [Builtin.append_,run_underlying ht,run_underlying hti,sizeOf,typeInfo,zeroValue,hi,hz,asInt,asIntOf,hw,h0,hb',hroom,hne,addr_add_at,hst]
theorem run_zeros_grow(t ti ty e:TypeId)(kt:IntKind)(i:TypeInfo)(z:Value)(ht:P.underlying t=some (.slice e))(hti:P.underlying ti=some (.int kt))(hi:P.info? e=some i)(hz:i.zero=some z)
  (k:IntKind) (m:Nat) (base:Option Addr) (n cap:Nat) (olds:List Value) (hold:(Builtin.firstCells i.size n (.slice base n cap)).run P w.drew= .ok olds.toArray w.drew)
  (hsz:0<i.size) (hw:IntKind.i64.wrap (m:Int)=m) (hb: ¬(2^48:Int)<(m:Int)*i.bytes) (hg:cap<n+m) (hm:0<m) (h63:((n+m:Nat):Int)≤9223372036854775807) (hfit:Builtin.nextslicecap (n+m) cap*i.bytes≤281474976710656):
  (Builtin.append_ #[t,ti] ty #[.slice base n cap,.int k (m:Int)]).run P w=
   .ok (.slice (some ⟨w.heap.size,0,none⟩) (n+m) (grownCap w (n+m) cap e))
    (w.drew.alloc (.cells (olds.toArray++Builtin.zeroCells z.cells m++Builtin.zeroCells z.cells (grownCap w (n+m) cap e - (n+m))) e)):=by
 have h0: ¬(m:Int)<0:=by omega
 have hne: ¬m*i.size=0:=Nat.ne_of_gt (Nat.mul_pos hm hsz);have hb': ¬(281474976710656:Int)<(m:Int)*i.bytes:=hb;have hn: ¬(n+m≤cap):=by omega
 have h63': ¬(9223372036854775807<((n:Int)+(m:Int))):=by omega
 have h48': ¬(281474976710656<Builtin.nextslicecap (n+m) cap*i.bytes):=by omega
 simp [Builtin.append_,run_underlying ht,run_underlying hti,sizeOf,typeInfo,zeroValue,hi,hz,asInt,asIntOf,hw,h0,hb',hn,h63',h48',hne,Question.forced,hold,newRow,grownCap]
theorem run_append_zero(t ti ty e:TypeId)(kt:IntKind)(i:TypeInfo)(z:Value)(size bytes:Nat)(ht:P.underlying t=some (.slice e))(hti:P.underlying ti=some (.int kt))(hi:P.info? e=some i)(hz:i.zero=some z)
  (hsize:i.size=size) (hby:i.bytes=bytes) (hzs:z.cells.size=size) (hz1: ∀u∈z.cells.toList,u.oneCell'=true) (hsz:0<size)
  (v:Value) (n:Nat) (xs:List Value) (hown:w.ownsAt e size v n xs)
  (k:IntKind) (m:Nat) (h1: ∀u∈(Builtin.zeroCells z.cells m).toList,u.oneCell'=true) (h63:n+m≤140737488355328) (hbytes:(n+m)*bytes≤140737488355328):
  ∃v' w',(Builtin.append_ #[t,ti] ty #[v,.int k (m:Int)]).run P w= .ok v' w'∧w'.ownsAt e size v' (n+m) (xs++(Builtin.zeroCells z.cells m).toList)∧w.grownBy w' v.ownBlock∧
   (v'.ownBlock=v.ownBlock∨v'.ownBlock=some w.heap.size):=by
 subst hsize;subst hby;have hw:IntKind.i64.wrap (m:Int)=m:=wrap_fits .i64 _ (by show(-9223372036854775808:Int)≤_;omega) (by show _≤(9223372036854775807:Int);omega);have hmb:m*i.bytes≤140737488355328:=by
  rw [Nat.add_mul]at hbytes;omega
 have hb: ¬(2^48:Int)<(m:Int)*i.bytes:=by
  rw [←Int.natCast_mul];have:(2^48:Int)=281474976710656:=by decide
  omega
 have hnl:(Builtin.zeroCells z.cells m).toList.length=m*i.size:=by rw [Array.length_toList,size_zeroCells,hzs]
 have hlen:(xs++(Builtin.zeroCells z.cells m).toList).length=(n+m)*i.size:=by rw [List.length_append,hown.1,hnl,Nat.add_mul]
 by_cases hm0:m=0
 ·subst hm0;have hz0:(Builtin.zeroCells z.cells 0).toList=[]:=List.eq_nil_of_length_eq_zero (by simpa using hnl);have h00:IntKind.i64.wrap 0=0:=hw;refine⟨v,w,?_,by rw [hz0];simpa using hown,⟨rfl,rfl,rfl,Nat.le_refl _,fun _ _ _=>rfl⟩,.inl rfl⟩;rcases hown.2 with⟨rfl,rfl⟩ | ⟨g,o,cap,cur,rfl,_,hnc,_⟩
  ·simp [Builtin.append_,run_underlying ht,run_underlying hti,sizeOf,typeInfo,hi,asInt,asIntOf,h00]
  ·simp [Builtin.append_,run_underlying ht,run_underlying hti,sizeOf,typeInfo,hi,asInt,asIntOf,h00,hnc,storeCells]
 have hm:0<m:=by omega
 have hx1:i.size=1∨∀u∈xs,u.oneCell'=true:=by
  rcases hown with⟨hl0,⟨_,hn0⟩ | ⟨_,_,_,_,_,⟨_,_,_,hz'⟩,_,_,_,htk⟩⟩
  ·rw [hn0,Nat.zero_mul]at hl0;have:=List.eq_nil_of_length_eq_zero hl0;exact .inr (by rw [this];simp)
  ·exact hz'.cells htk
 have grow: ∀(base:Option Addr) (cap:Nat),(Builtin.firstCells i.size n (.slice base n cap)).run P w.drew= .ok xs.toArray w.drew→cap<n+m→v= .slice base n cap→
   ∃v' w',(Builtin.append_ #[t,ti] ty #[v,.int k (m:Int)]).run P w= .ok v' w'∧w'.ownsAt e i.size v' (n+m) (xs++(Builtin.zeroCells z.cells m).toList)∧w.grownBy w' v.ownBlock∧
   (v'.ownBlock=v.ownBlock∨v'.ownBlock=some w.heap.size):=by
  intro base cap hold hg hv;subst hv;have hge:=grownCap_ge w (n+m) cap e;have hcm':grownCap w (n+m) cap e≤maxLen:=grownCap_le_maxLen w (n+m) cap e (by unfold maxLen;omega);have hr:=run_zeros_grow (P:=P) (w:=w) t ti ty e kt i z ht hti hi hz k m base n cap xs hold hsz hw hb hg hm (by omega) (growslice_fits (by omega) hbytes);refine⟨_,_,hr,⟨hlen,.inr ⟨w.heap.size,0,_,_,rfl,⟨e,_,heap_alloc_new w.drew _,.zero (one3 hx1 (zeros_one hz1 _) (zeros_one hz1 _))⟩,hge,hcm',?_,?_⟩⟩,⟨rfl,rfl,rfl,by simp,fun k hk _=>heap_alloc_old w.drew _ hk⟩,Or.inr rfl⟩
  ·simp only [Array.size_append,List.size_toArray,size_zeroCells,hzs,hown.1,←Nat.add_mul,Nat.zero_add];intro _;apply Nat.le_of_eq;congr 1;omega
  ·simp only [Array.toList_append,List.drop_zero];rw [←hlen];exact List.take_left
 rcases hown.2 with⟨rfl,rfl⟩ | ⟨g,o,cap,cur,rfl,⟨t',fz,hg,hz'⟩,hnc,hcm,hcs,htk⟩
 ·have hx:xs=[]:=List.eq_nil_of_length_eq_zero (by simpa using hown.1);subst hx;exact grow none 0 (by simp [Builtin.firstCells]) (by omega) rfl
 ·by_cases hroom:n+m≤cap
  ·have hcs:=hcs (by omega);have hmul:(n+m)*i.size≤cap*i.size:=Nat.mul_le_mul_right _ hroom;rw [Nat.add_mul]at hmul;have hfit:o+n*i.size+(Builtin.zeroCells z.cells m).toList.length≤cur.size:=by omega
   have hst:=run_storeCells_loose (P:=P) g (o+n*i.size) t' fz (Builtin.zeroCells z.cells m).toList 0 cur w hg hz' (by simpa using hfit) h1;simp only [Nat.add_zero]at hst;have hr:=run_zeros_fit (P:=P) (w:=w) t ti ty e kt i z ht hti hi hz k m g o n cap hsz hm hw hb hroom hst;refine⟨_,_,hr,⟨hlen,.inr ⟨g,o,cap,_,rfl,⟨t',fz,setRow_heap w g cur _ t' _ hg,Loose.put hz' h1 rfl (by simp only [List.size_toArray,List.length_append,List.length_take,List.length_drop,Array.length_toList]at hfit ⊢;omega)⟩,hroom,hcm,?_,?_⟩⟩,⟨rfl,rfl,rfl,by simp,fun k _ hk=>setRow_other w g k _ (fun e=>hk (by simp [Value.ownBlock,e]))⟩,Or.inl rfl⟩
   ·simp only [List.size_toArray,List.length_append,List.length_take,List.length_drop,Array.length_toList]at hfit ⊢;intro _;omega
   ·have:=take_put_at cur.toList (Builtin.zeroCells z.cells m).toList o (n*i.size) ((n+m)*i.size) (by rw [Nat.add_mul];omega) (by rw [Nat.add_mul];simp only [Array.length_toList]at hfit ⊢;omega);simp only;rw [this,List.take_take,Nat.min_eq_left (by rw [Nat.add_mul];omega),htk,hnl,←Nat.add_mul,List.drop_eq_nil_of_le (by rw [List.length_take];exact Nat.min_le_left _ _),List.append_nil]
  ·exact grow (some ⟨g,o,none⟩) cap (run_firstCells_some (P:=P) w.drew i.size n ⟨g,o,none⟩ n cap xs hown.1 (by simpa using ownsAt_cells hown)) (by omega) rfl
theorem run_append_zero_new(t ti ty e:TypeId)(kt:IntKind)(i:TypeInfo)(z:Value)(size bytes:Nat)(ht:P.underlying t=some (.slice e))(hti:P.underlying ti=some (.int kt))(hi:P.info? e=some i)(hz:i.zero=some z)
  (hsize:i.size=size) (hby:i.bytes=bytes) (hzs:z.cells.size=size) (hz1: ∀u∈z.cells.toList,u.oneCell'=true) (hsz:0<size)
  (v:Value) (n C:Nat) (xs:List Value) (hrd:World.rdRow w v n xs) (hxl:xs.length=n*size) (hx1: ∀u∈xs,u.oneCell'=true) {a:Option Addr} (hv:v= .slice a n C)
  (k:IntKind) (m:Nat) (h63:n+m≤140737488355328) (hbytes:(n+m)*bytes≤140737488355328) (hg:C<n+m) (hnC:n≤C):
  ∃v' w',(Builtin.append_ #[t,ti] ty #[v,.int k (m:Int)]).run P w= .ok v' w'∧w'.ownsAt e size v' (n+m) (xs++(Builtin.zeroCells z.cells m).toList)∧w.grownBy w' none∧
   v'.ownBlock=some w.heap.size:=by
 subst hsize;subst hby;have hw:IntKind.i64.wrap (m:Int)=m:=wrap_fits .i64 _ (by show(-9223372036854775808:Int)≤_;omega) (by show _≤(9223372036854775807:Int);omega);have hmb:m*i.bytes≤140737488355328:=by
  rw [Nat.add_mul]at hbytes;omega
 have hb: ¬(2^48:Int)<(m:Int)*i.bytes:=by
  rw [←Int.natCast_mul];have:(2^48:Int)=281474976710656:=by decide
  omega
 have hnl:(Builtin.zeroCells z.cells m).toList.length=m*i.size:=by rw [Array.length_toList,size_zeroCells,hzs]
 have hlen:(xs++(Builtin.zeroCells z.cells m).toList).length=(n+m)*i.size:=by rw [List.length_append,hxl,hnl,Nat.add_mul]
 obtain⟨a',c',he,hnil,hr⟩:=hrd;rw [hv]at he;cases he;subst hv;have hold:(Builtin.firstCells i.size n (.slice a n C)).run P w.drew= .ok xs.toArray w.drew:=by
  cases a with
  | none=>
   have hn:=hnil rfl;subst hn;have:xs=[]:=List.eq_nil_of_length_eq_zero (by simpa using hxl);subst this;simp [Builtin.firstCells]
  | some ad=>exact run_firstCells_some (P:=P) w.drew i.size n ad n C xs hxl (by simpa using hr ad rfl)
 have hge:=grownCap_ge w (n+m) C e;have hcm':grownCap w (n+m) C e≤maxLen:=grownCap_le_maxLen w (n+m) C e (by unfold maxLen;omega);have hr:=run_zeros_grow (P:=P) (w:=w) t ti ty e kt i z ht hti hi hz k m a n C xs hold hsz hw hb hg (by omega) (by omega) (growslice_fits (by omega) hbytes);refine⟨_,_,hr,⟨hlen,.inr ⟨w.heap.size,0,_,_,rfl,⟨e,_,heap_alloc_new w.drew _,.zero (one3 (.inr hx1) (zeros_one hz1 _) (zeros_one hz1 _))⟩,hge,hcm',?_,?_⟩⟩,⟨rfl,rfl,rfl,by simp,fun k hk _=>heap_alloc_old w.drew _ hk⟩,rfl⟩
 ·simp only [Array.size_append,List.size_toArray,size_zeroCells,hzs,hxl,←Nat.add_mul,Nat.zero_add];intro _;apply Nat.le_of_eq;congr 1;omega
 ·simp only [Array.toList_append,List.drop_zero];rw [←hlen];exact List.take_left
section
variable {ρ:Env} {hp:List Ck} {S:Nat→Nat→Prop} {nb nv:Nat} {T:List TI}
theorem appendZ_sound(hT:checkT P T=true){ts t':TypeId}{tt ti:TI}(htt:tlook T ts=some tt)(hti':tlook T t'=some ti){kt:IntKind}(hkt:ti.k= .int kt){x:SV}{m:E}{res:Res}(h:appendZ T hp nv tt.k x m=some res)
  (hrd:Reads hp ρ w S res.rd) (hvc: ∀b∈res.vcs,b.prop ρ) (k:IntKind) (ty:TypeId):
  Did P ρ w hp S nb nv ((do pure (.value (←Builtin.append_ #[ts,t'] ty #[x.val ρ,.int k (m.den ρ 0)])):Sem Next).run P w) res:=by
 unfold appendZ at h;split at h
 ·rename_i t v hk;split at h
  ·rename_i te j md t2 s n cols hte hj;split at h
   ·rename_i zc hzc;split at h
    ·rename_i cols' hcols;split at h
     ·rename_i hcond;obtain⟨rfl,hs,hw⟩:=hcond;cases h;simp only at hvc hrd;obtain⟨rfl,htt'⟩:=tlook_spec hT htt;obtain⟨rfl,hti⟩:=tlook_spec hT hte;obtain⟨rfl,htj⟩:=tlook_spec hT hti';have hkk:=htt'.kind;rw [hk]at hkk;have hu:=kind_slice hkk;have hkj:=htj.kind;rw [hkt]at hkj;have huj:=kind_int hkj;obtain⟨i,hi,hsz,hby,z,hz,hc⟩:=hti.info;have hzs:z.cells.size=te.size:=by rw [←Array.length_toList,←hc ρ,cellsL_length,hti.zlen]
      obtain⟨v1,v3⟩:=mem_app hvc;obtain⟨v1,v2⟩:=mem_app v1;have v1:=bLe'_prop v1;have v2:=bLe'_prop v2;simp only [E.den]at v1 v2;obtain⟨z1,z2,z3⟩:=zeroCols_spec (ρ:=ρ) hzc;have hsum:(eAdd n m).den ρ 0=n.den ρ 0+m.den ρ 0:=eAdd_den ..;obtain⟨b1,b2⟩:=roomVc_prop (n:=eAdd n m) (bytes:=te.bytes) (v3 _ (by simp)) (by rw [hsum];omega);have hsumn:((eAdd n m).den ρ 0).toNat=(n.den ρ 0).toNat+(m.den ρ 0).toNat:=by rw [hsum];omega
      rw [hsumn]at b1 b2;obtain⟨hj0,hov⟩:=findOwn_spec hj;have hov:v=md:=by simpa [Ck.ownOf] using hov
      subst hov;obtain⟨hown,hblk⟩:=hrd j (by simp) _ hj0;simp only [if_true]at hown;have hmm:m.den ρ 0=(((m.den ρ 0).toNat:Nat):Int):=by omega
      have hzl:(Builtin.zeroCells z.cells (m.den ρ 0).toNat).toList=tabCells ρ (m.den ρ 0).toNat zc:=by
       rw [zero_tab hzc,hc ρ];exact rep_mod _ _ (by omega)
      obtain⟨v',w',r1,r2,r3,r5⟩:=run_append_zero (P:=P) (w:=w) tt.t ti.t ty te.t kt i z te.size te.bytes hu huj hi hz hsz hby hzs (zone hti.one hc) z3 _ _ _ (by rw [←hs];exact hown) k (m.den ρ 0).toNat (by rw [hzl];exact tab_one _ _) b2 b1;have hcells:tabCells ρ ((eAdd n m).den ρ 0).toNat cols'=tabCells ρ (n.den ρ 0).toNat cols++tabCells ρ (m.den ρ 0).toNat zc:=by
       rw [hsumn];obtain⟨c1,c2,c3⟩:=splCols_spec (ρ:=ρ) v1 v2 hcols;rw [tabCells_eq,tabF_add];congr 1
       ·exact tabF_congr fun k hk=>by rw [c3,if_neg (by omega)]
       ·exact tabF_congr fun k hk=>by rw [c3,if_pos (by omega)];congr 1;omega
      refine⟨te.t,s,_,cols',v',w',fun k=>v'.ownBlock=some k,rfl,rfl,by rw [hmm];simp only [SV.val,Sem.run_bind,r1,Result.andThen_ok,Sem.run_pure],?_,⟨_,hj0,rfl⟩,⟨r3.os,r3.tape,r3.output,r3.size⟩,?_,⟨?_,fun k=>⟨fun h=>⟨h,.inl rfl⟩,fun h=>h.1⟩⟩,?_⟩
      ·rcases r2.2 with⟨rfl,_⟩ | ⟨g,o,cap,cur,rfl,_⟩<;>rfl
      ·intro k hk hn;exact r3.block k hk fun he=>hn ((hblk k).2 ⟨he.symm,.inl rfl⟩)
      ·simp only [if_true];rw [hcells,hsumn,hs,←hzl];exact r2
      ·intro k hk;rcases r5 with h | h
       ·left;rw [hblk k,←h];exact⟨hk,.inl rfl⟩
       ·right;rw [hk]at h;cases h;exact⟨Nat.le_refl _,ownsAt_lt r2 hk⟩
     ·cases h
    ·cases h
   ·cases h
  ·cases h
 ·rename_i t v0 cs0 s0 hk;split at h
  ·rename_i te r hte hr;split at h
   ·rename_i zc mx rc hzc hmx hrc;split at h
    ·rename_i cols' hcols;split at h
     ·rename_i hcond;obtain⟨hs,hw⟩:=hcond;cases h;simp only at hvc hrd;obtain⟨rfl,htt'⟩:=tlook_spec hT htt;obtain⟨rfl,hti⟩:=tlook_spec hT hte;obtain⟨rfl,htj⟩:=tlook_spec hT hti';have hkk:=htt'.kind;rw [hk]at hkk;have hu:=kind_slice hkk;have hkj:=htj.kind;rw [hkt]at hkj;have huj:=kind_int hkj;obtain⟨i,hi,hsz,hby,z,hz,hc⟩:=hti.info;have hzs:z.cells.size=te.size:=by rw [←Array.length_toList,←hc ρ,cellsL_length,hti.zlen]
      obtain⟨v1,v6⟩:=mem_app hvc;obtain⟨v1,v5⟩:=mem_app v1;obtain⟨v1,v4⟩:=mem_app v1;obtain⟨v1,v3⟩:=mem_app v1;obtain⟨v1,v2⟩:=mem_app v1;have v2:=bLe'_prop v2;have v3:=bLe'_prop v3;have v4:=bLe'_prop v4;have v5:=v5 _ (List.mem_singleton.2 rfl);rw [←BE.den_iff,bLt_den]at v5;have v5:=of_decide_eq_true v5;simp only [E.den]at v2 v4;rw [eSub_den,eAdd_den]at v5;obtain⟨z1,z2,z3⟩:=zeroCols_spec (ρ:=ρ) hzc;have hsum:(eAdd r.p.len m).den ρ 0=r.p.len.den ρ 0+m.den ρ 0:=eAdd_den ..;obtain⟨b1,b2⟩:=roomVc_prop (n:=eAdd r.p.len m) (bytes:=te.bytes) (v6 _ (by simp)) (by rw [hsum];omega);have hsumn:((eAdd r.p.len m).den ρ 0).toNat=(r.p.len.den ρ 0).toNat+(m.den ρ 0).toNat:=by rw [hsum];omega
      rw [hsumn]at b1 b2;obtain⟨_,hsub⟩:=rootSV_spec hr hrd v1;obtain⟨_,s2,s3⟩:=root_src hr hrd v1 v2 hw hrc;obtain⟨g1,_,g3,a,c,kk,_,_,hx,_⟩:=hsub;rw [hmx]at hx g3;simp only [Option.map_some,Option.getD_some]at hx;have g3:=g3 (E.den ρ mx 0) rfl;have hmm:m.den ρ 0=(((m.den ρ 0).toNat:Nat):Int):=by omega
      have hzl:(Builtin.zeroCells z.cells (m.den ρ 0).toNat).toList=tabCells ρ (m.den ρ 0).toNat zc:=by
       rw [zero_tab hzc,hc ρ];exact rep_mod _ _ (by omega)
      obtain⟨v',w',r1,r2,r3,r5⟩:=run_append_zero_new (P:=P) (w:=w) tt.t ti.t ty te.t kt i z te.size te.bytes hu huj hi hz hsz hby hzs (zone hti.one hc) z3 _ _ _ _ s3 (by rw [tab_length,s2,hs]) (tab_one _ _) hx k (m.den ρ 0).toNat b2 b1 (by omega) (by omega);have hcells:tabCells ρ ((eAdd r.p.len m).den ρ 0).toNat cols'=tabCells ρ (r.p.len.den ρ 0).toNat rc++tabCells ρ (m.den ρ 0).toNat zc:=by
       rw [hsumn];obtain⟨c1,c2,c3⟩:=splCols_spec (ρ:=ρ) v2 v4 hcols;rw [tabCells_eq,tabF_add];congr 1
       ·exact tabF_congr fun k hk=>by rw [c3,if_neg (by omega)]
       ·exact tabF_congr fun k hk=>by rw [c3,if_pos (by omega)];congr 1;omega
      refine⟨te.t,te.size,_,cols',v',w',fun k=>v'.ownBlock=some k,rfl,rfl,by rw [hmm];simp only [Sem.run_bind,r1,Result.andThen_ok,Sem.run_pure],?_,⟨r3.os,r3.tape,r3.output,r3.size⟩,fun k hk=>r3.block k hk (by simp),⟨?_,fun k=>⟨fun h=>⟨h,.inl rfl⟩,fun h=>h.1⟩⟩,?_⟩
      ·rcases r2.2 with⟨rfl,_⟩ | ⟨g,o,cap,cur,rfl,_⟩<;>rfl
      ·simp only [if_true];rw [hcells,hsumn,←hzl];exact r2
      ·intro k hk;rw [hk]at r5;cases r5;exact⟨Nat.le_refl _,ownsAt_lt r2 hk⟩
     ·cases h
    ·cases h
   ·cases h
  ·cases h
 ·rename_i t hk;split at h
  ·rename_i te hte;split at h
   ·rename_i zc hzc;split at h
    ·rename_i hw;cases h;simp only at hvc;obtain⟨rfl,htt'⟩:=tlook_spec hT htt;obtain⟨rfl,hti⟩:=tlook_spec hT hte;obtain⟨rfl,htj⟩:=tlook_spec hT hti';have hkk:=htt'.kind;rw [hk]at hkk;have hu:=kind_slice hkk;have hkj:=htj.kind;rw [hkt]at hkj;have huj:=kind_int hkj;obtain⟨i,hi,hsz,hby,z,hz,hc⟩:=hti.info;have hzs:z.cells.size=te.size:=by rw [←Array.length_toList,←hc ρ,cellsL_length,hti.zlen]
     obtain⟨v2,v3⟩:=mem_app hvc;have v2:=bLe'_prop v2;simp only [E.den]at v2;obtain⟨z1,z2,z3⟩:=zeroCols_spec (ρ:=ρ) hzc;obtain⟨b1,b2⟩:=roomVc_prop (n:=m) (bytes:=te.bytes) (v3 _ (by simp)) v2;have hmm:m.den ρ 0=(((m.den ρ 0).toNat:Nat):Int):=by omega
     have hzl:(Builtin.zeroCells z.cells (m.den ρ 0).toNat).toList=tabCells ρ (m.den ρ 0).toNat zc:=by
      rw [zero_tab hzc,hc ρ];exact rep_mod _ _ (by omega)
     obtain⟨v',w',r1,r2,r3,r5⟩:=run_append_zero (P:=P) (w:=w) tt.t ti.t ty te.t kt i z te.size te.bytes hu huj hi hz hsz hby hzs (zone hti.one hc) z3 (.slice none 0 0) 0 [] (ownsAt_nil w te.t te.size) k (m.den ρ 0).toNat (by rw [hzl];exact tab_one _ _) (by rw [Nat.zero_add];exact b2) (by rw [Nat.zero_add];exact b1);refine⟨te.t,te.size,_,zc,v',w',fun k=>v'.ownBlock=some k,rfl,rfl,by rw [hmm];simp only [SV.val,Sem.run_bind,r1,Result.andThen_ok,Sem.run_pure],?_,⟨r3.os,r3.tape,r3.output,r3.size⟩,fun k hk=>r3.block k hk (by simp [Value.ownBlock]),⟨?_,fun k=>⟨fun h=>⟨h,.inl rfl⟩,fun h=>h.1⟩⟩,?_⟩
     ·rcases r2.2 with⟨rfl,_⟩ | ⟨g,o,cap,cur,rfl,_⟩<;>rfl
     ·simp only [if_true];rw [←hzl];simpa using r2
     ·intro k hk;rcases r5 with h | h
      ·rw [hk]at h;cases h
      ·rw [hk]at h;cases h;exact⟨Nat.le_refl _,ownsAt_lt r2 hk⟩
    ·cases h
   ·cases h
  ·cases h
 ·cases h
end
end Go.RX

namespace Go.RX
variable {P:Program} {w:World}
section
variable {ρ:Env} {hp:List Ck} {S:Nat→Nat→Prop} {nb nv:Nat} {T:List TI}
theorem row_owns{b t:Nat}{cs:List Value}{S':Nat→Prop}(h:(rowHP b true cs).p w S')(hl:cs.length≤maxLen):w.ownsAt t 1 (.slice (some ⟨b,0,none⟩) cs.length cs.length) cs.length cs:=by
 obtain⟨_,ty,fz,hb,hf⟩:=h;have:=hf rfl;subst this;refine⟨by omega,.inr ⟨b,0,cs.length,_,rfl,⟨ty,_,hb,.zero (.inl rfl)⟩,Nat.le_refl _,hl,fun _=>by simp,by simp⟩⟩
theorem rowCol_spec{cs:List SV}{q:Nat}{col:Col}(h:rowCol cs=some (q,col)):SV.cellsL ρ cs=tabCells ρ q [col]∧col.w=1:=by
 unfold rowCol at h;split at h
 ·cases h;exact⟨by simp [SV.cellsL,SV.cells,tabCells,tabL,Col.cells,colV,E.den,updF,srowF,strD_rowS],rfl⟩
 ·cases h;exact⟨by simp [SV.cellsL,SV.cells,tabCells,tabL,Col.cells,colV,E.den,updF,sDec_code],rfl⟩
 ·split at h
  ·rename_i ki kl a hro;split at h
   ·rename_i hrep;cases h;have hcx:=rowOf_spec (ρ:=ρ) hro;rw [hrep,List.length_replicate,mkI_rep]at hcx;rw [tab_single];exact⟨hcx,rfl⟩
   ·cases h
  ·cases h
theorem appendRow_sound(hT:checkT P T=true){ts:TypeId}{tt:TI}(htt:tlook T ts=some tt){x y:SV}{res:Res}(h:appendRow T hp nv tt.k x y=some res)
  (hrd:Reads hp ρ w S res.rd) (hvc: ∀b∈res.vcs,b.prop ρ) (ty:TypeId):
  Did P ρ w hp S nb nv ((do pure (.value (←Builtin.append_ #[ts,ts] ty #[x.val ρ,y.val ρ])):Sem Next).run P w) res:=by
 unfold appendRow at h;split at h
 case h_2=>cases h
 rename_i t b ix s n m hk;split at h
 case h_2=>cases h
 rename_i te j b' cs q' hte hfa hix hn;split at h
 case h_2=>cases h
 rename_i q' col sc hro hsc;split at h
 case isFalse=>cases h
 rename_i hc;obtain⟨rfl,rfl,hsz1,hqq⟩:=hc;subst hqq;rw [Option.map_eq_some_iff]at h;obtain⟨cols',hcols,rfl⟩:=h;simp only at hvc hrd;obtain⟨rfl,htt'⟩:=tlook_spec hT htt;obtain⟨rfl,hti⟩:=tlook_spec hT hte;have hkk:=htt'.kind;rw [hk]at hkk;have hu:=kind_slice hkk;obtain⟨i,hi,hsz,hby,z,hz,hcz⟩:=hti.info;have hzs:z.cells.size=te.size:=by rw [←Array.length_toList,←hcz ρ,cellsL_length,hti.zlen]
 obtain⟨v1,v3⟩:=mem_app hvc;obtain⟨v1,v2⟩:=mem_app v1;have v2:=bLe'_prop v2;simp only [E.den]at v2;have hnn:n.den ρ 0=(q':Int):=litNat_den (ρ:=ρ) hn;have hii:ix.den ρ 0=((0:Nat):Int):=litNat_den (ρ:=ρ) hix;obtain⟨_,s2,s3⟩:=srcOf_spec (te:=te) hsc (fun j hj=>hrd j (List.mem_cons_of_mem _ hj)) v1 v2;have hsum:(eAdd (.lit (q':Int)) sc.n).den ρ 0=(q':Int)+sc.n.den ρ 0:=by rw [eAdd_den];rfl
 obtain⟨b1,b2⟩:=roomVc_prop (n:=eAdd (.lit (q':Int)) sc.n) (bytes:=te.bytes) (v3 _ (by simp)) (by rw [hsum];omega);have hsumn:((eAdd (.lit (q':Int)) sc.n).den ρ 0).toNat=q'+(sc.n.den ρ 0).toNat:=by rw [hsum];omega
 rw [hsumn]at b1 b2;obtain⟨hj,hat⟩:=findAt_spec hfa;simp only [Ck.isAt,beq_iff_eq]at hat;subst hat;have hS:=hrd j (by simp) _ hj;obtain⟨hcells,hcw⟩:=rowCol_spec (ρ:=ρ) hro;have hlen:(SV.cellsL ρ cs).length=q':=by rw [hcells,tab_length];simp [colsW,hcw]
 have hS':(rowHP (ρ.bv.getD b 0) true (SV.cellsL ρ cs)).p w (S j):=hS;have hown:=row_owns (t:=te.t) hS' (by rw [hlen];unfold maxLen;omega);rw [hlen,hcells]at hown;have hblk: ∀k,S j k↔k=ρ.bv.getD b 0:=hS'.1;obtain⟨v',w',r1,r2,r3,r5⟩:=run_append_rd (P:=P) (w:=w) tt.t ty te.t i z te.size te.bytes hu hi hz hsz hby hzs (zone hti.one hcz) (by omega) _ q' _ (by rw [hsz1];exact hown)
  _ _ _ s3 (by rw [tab_length,s2]) (tab_one _ _) (by unfold maxLen;omega) b1
 have hxv:(SV.sl b ix 1 n n).val ρ= .slice (some ⟨ρ.bv.getD b 0,0,none⟩) q' q':=by simp [SV.val,hnn,hii]
 have htab:tabCells ρ ((eAdd (.lit (q':Int)) sc.n).den ρ 0).toNat cols'=tabCells ρ q' [col]++tabCells ρ (sc.n.den ρ 0).toNat sc.cols:=by
  rw [hsumn];obtain⟨c1,c2,c3⟩:=splCols_spec (ρ:=ρ) (at_:= .lit (q':Int)) (by show(0:Int)≤(q':Int);omega) v2 hcols;have hqd:((E.lit (q':Int)).den ρ 0).toNat=q':=by show Int.toNat (q':Int)=q';omega
  rw [hqd]at c3;rw [tabCells_eq,tabF_add];congr 1
  ·exact tabF_congr fun k hk=>by rw [c3,if_neg (by omega)]
  ·exact tabF_congr fun k hk=>by rw [c3,if_pos (by omega)];congr 1;omega
 refine⟨te.t,1,_,cols',v',w',fun k=>v'.ownBlock=some k,rfl,rfl,by rw [hxv];simp only [Sem.run_bind,r1,Result.andThen_ok,Sem.run_pure],?_,⟨_,hj,rfl⟩,⟨r3.os,r3.tape,r3.output,r3.size⟩,?_,⟨?_,fun k=>⟨fun h=>⟨h,.inl rfl⟩,fun h=>h.1⟩⟩,?_⟩
 ·rcases r2.2 with⟨rfl,_⟩ | ⟨g,o,cap,cur,rfl,_⟩<;>rfl
 ·intro k hk hn';refine r3.block k hk fun he=>hn' ((hblk k).2 ?_)
  simp only [Value.ownBlock,Option.some.injEq]at he;exact he
 ·simp only [if_true];rw [htab,hsumn,←hsz1];exact r2
 ·intro k hk;rcases r5 with h | h
  ·left;rw [hk]at h;simp only [Value.ownBlock,Option.some.injEq]at h;exact(hblk k).2 h
  ·right;rw [hk]at h;cases h;exact⟨Nat.le_refl _,ownsAt_lt r2 hk⟩
theorem vvNames_spec: ∀{cs:List SV} {l:List Nat},vvNames cs=some l→SV.cellsL ρ cs=l.map fun n=>(ρ.vv.getD n V1.nil).v
 | [],l,h=>by cases h;rfl
 | .vv i::r,l,h=>by
  simp only [vvNames,Option.map_eq_some_iff]at h;obtain⟨l',h',rfl⟩:=h;simp only [SV.cellsL,SV.cells,vvNames_spec h',List.map_cons,List.singleton_append]
theorem rowNames_spec{x:SV}{j:Nat}{l:List Nat}(h:rowNames hp x=some (j,l))(hrd:Reads hp ρ w S [j]):
  ∃b c,x.val ρ= .slice (some ⟨b,0,none⟩) l.length c∧∀(k:Nat) u,(l.map fun n=>(ρ.vv.getD n V1.nil).v)[k]? =some u→w.cell? ((⟨b,0,none⟩:Addr).add k)=some u:=by
 unfold rowNames at h;split at h
 case h_2=>cases h
 rename_i b i s n m;split at h
 case h_2=>cases h
 rename_i j' b' wr cs q hf hi hn;split at h
 case h_2=>cases h
 rename_i l' hl;split at h
 case isFalse=>cases h
 rename_i hq;cases h;obtain⟨hj,hat⟩:=findAt_spec hf;simp only [Ck.isAt,beq_iff_eq]at hat;subst hat;have hS:(rowHP (ρ.bv.getD b 0) wr (SV.cellsL ρ cs)).p w (S j):=hrd j (by simp) _ hj;obtain⟨_,ty,fz,hg,_⟩:=hS;have hnn:=litNat_den (ρ:=ρ) hn;have hii:=litNat_den (ρ:=ρ) hi;refine⟨ρ.bv.getD b 0,(m.den ρ 0).toNat,by simp [SV.val,hnn,hii,hq],fun k u hu=>?_⟩;rw [←vvNames_spec hl]at hu;rw [addr_add_at];simp only [World.cell?,hg];simpa using hu
theorem vls_tab(l:List Nat):tabCells ρ l.length [⟨.vls l,1,.lit 0⟩]=l.map fun n=>(ρ.vv.getD n V1.nil).v:=by
 unfold tabCells tabL;simp only [List.map_cons,List.map_nil,List.flatMap_cons,List.flatMap_nil,List.append_nil,Col.cells,colV,List.range_one,List.map_cons,List.map_nil];rw [List.flatMap_def];apply List.ext_getElem?;intro k;have: ∀(g:Nat→Value) (n:Nat),(List.map (fun i=>[g i]) (List.range n)).flatten=(List.range n).map g:=by
  intro g n
  induction n with
  | zero=>rfl
  | succ n ih=>rw [List.range_succ,List.map_append,List.map_append,List.flatten_append,ih];simp
 rw [this fun i=>((l[i*1+0]?).elim V1.nil fun n=>ρ.vv.getD n V1.nil).v];rw [List.getElem?_map,List.getElem?_map];by_cases hk:k<l.length
 ·rw [List.getElem?_range hk,List.getElem?_eq_getElem hk];simp [List.getElem?_eq_getElem hk]
 ·rw [List.getElem?_eq_none (by simp;omega),List.getElem?_eq_none (by omega)];rfl
theorem appendVls_sound(hT:checkT P T=true){ts:TypeId}{tt:TI}(htt:tlook T ts=some tt){x y:SV}{res:Res}(h:appendVls T hp nv tt.k x y=some res)
  (hrd:Reads hp ρ w S res.rd) (ty:TypeId):
  Did P ρ w hp S nb nv ((do pure (.value (←Builtin.append_ #[ts,ts] ty #[x.val ρ,y.val ρ])):Sem Next).run P w) res:=by
 unfold appendVls at h;split at h
 case h_2=>cases h
 rename_i t b ix s n m hk;split at h
 case h_2=>cases h
 rename_i te j l j' l' hte hx hy;split at h
 case isFalse=>cases h
 rename_i hc;obtain⟨rfl,hsz1,hne,hb1,hb2⟩:=hc;cases h;simp only at hrd;obtain⟨rfl,htt'⟩:=tlook_spec hT htt;obtain⟨rfl,hti⟩:=tlook_spec hT hte;have hkk:=htt'.kind;rw [hk]at hkk;have hu:=kind_slice hkk;obtain⟨i,hi,hsz,hby,z,hz,hcz⟩:=hti.info;have hzs:z.cells.size=te.size:=by rw [←Array.length_toList,←hcz ρ,cellsL_length,hti.zlen]
 obtain⟨xb,xc,hxv,hxr⟩:=rowNames_spec hx (fun k hk=>hrd k (by simp at hk;simp [hk]));obtain⟨yb,yc,hyv,hyr⟩:=rowNames_spec hy (fun k hk=>hrd k (by simp at hk;simp [hk]));have hxc:xc=l.length:=by
  have:(SV.sl b ix s n n).val ρ= .slice (some ⟨ρ.bv.getD b 0,(ix.den ρ 0).toNat*s,none⟩) (n.den ρ 0).toNat (n.den ρ 0).toNat:=rfl;rw [this]at hxv;simp only [Value.slice.injEq]at hxv;omega
 subst hxc;obtain⟨v',w',r1,r2,r3,r5⟩:=run_append_full (P:=P) (w:=w) tt.t ty te.t i z te.size te.bytes hu hi hz hsz hby hzs (zone hti.one hcz) ⟨xb,0,none⟩ l.length _ (by rw [List.length_map,hsz1,Nat.mul_one]) (fun u hu=>by obtain⟨_,_,rfl⟩:=List.mem_map.1 hu;exact V1.one _) hxr
  ⟨yb,0,none⟩ l'.length yc (by omega) _ (by rw [List.length_map,hsz1,Nat.mul_one]) (fun u hu=>by obtain⟨_,_,rfl⟩:=List.mem_map.1 hu;exact V1.one _) hyr (by unfold maxLen;omega) hb1
 refine⟨te.t,1,_,_,v',w',fun k=>v'.ownBlock=some k,rfl,rfl,by rw [hxv,hyv];simp only [Sem.run_bind,r1,Result.andThen_ok,Sem.run_pure],?_,⟨r3.os,r3.tape,r3.output,r3.size⟩,fun k hk=>r3.block k hk (by simp),⟨?_,fun k=>⟨fun h=>⟨h,.inl rfl⟩,fun h=>h.1⟩⟩,?_⟩
 ·rcases r2.2 with⟨rfl,_⟩ | ⟨g,o,cap,cur,rfl,_⟩<;>rfl
 ·simp only [if_true];have e:((E.lit ((l.length+l'.length:Nat):Int)).den ρ 0).toNat=(l++l').length:=by
   show Int.toNat ((l.length+l'.length:Nat):Int)=_;rw [Int.toNat_natCast,List.length_append]
  rw [e,vls_tab,List.map_append,List.length_append,←hsz1];exact r2
 ·intro k hk;rw [hk]at r5;cases r5;exact⟨Nat.le_refl _,ownsAt_lt r2 hk⟩
end
end Go.RX
