/- strings.Builder of this program: copyCheck, WriteByte. · strings.Builder of this program: Write, WriteString. · strings.Builder of this program: its methods' contracts. · The group's functions: the executor's contexts. · The group's functions: what is left to be shown; printed by a program of ours (wip/tools/g2.lean). -/
import Derived.Test.YtfnaoeleljhmhaaGreatM31
import Derived.Test.YtfnaoeleljhmhaaGreatM29
import Derived.Test.YtfnaoeleljhmhaaGreatM28

namespace Go.RX.Sb
open Go.Shelf Go.RowKit Go.Proofs
theorem infoB:(Tryz.prog.info? 234).map (·.size)=some 2:=by kernel_rfl
theorem liesB:liesAt Tryz.prog Tryz.prog.depth 234 (2/Tryz.prog.cellsOf 234) 0 234 1=true:=by kernel_rfl
theorem infoByte:(Tryz.prog.info? 5).map (fun i=>(i.zero,i.size,i.bytes))=some (some (.int .u8 0),1,1):=by kernel_rfl
set_option maxHeartbeats 1000000 in
set_option maxRecDepth 100000 in
theorem copyCheck_used(b:Nat)(w:World)(h0:w.cell? ⟨b,0,none⟩=some (.pointer (some ⟨b,0,none⟩))):
  Calls Tryz.prog 145 #[.pointer (some ⟨b,0,none⟩)] w fun e w'=>e= .returned (.tuple #[])∧w'=w:=by
 obtain⟨j,hj,_⟩:=Option.map_eq_some_iff.1 infoB
 go_enter Tryz.func145,Tryz.ntmps145
 go_wp2
 rw [Lib.run_neq_ptr_same w _ Tryz.underlying232 hj]
 go_wp2
 go_end0
 exact⟨rfl,rfl⟩
set_option maxHeartbeats 1000000 in
set_option maxRecDepth 100000 in
theorem copyCheck_fresh(b:Nat)(w:World)(h0:w.cell? ⟨b,0,none⟩=some (.pointer none))(hsh:w.shape? b=some (234,2))(hfz:w.frozen? ⟨b,0,none⟩=false):
  Calls Tryz.prog 145 #[.pointer (some ⟨b,0,none⟩)] w fun e w'=>e= .returned (.tuple #[])∧w'=w.setCell ⟨b,0,none⟩ (.pointer (some ⟨b,0,none⟩)):=by
 obtain⟨j,hj,hjs⟩:=Option.map_eq_some_iff.1 infoB
 go_enter Tryz.func145,Tryz.ntmps145
 go_wp2
 rw [Lib.run_to_unsafe w ⟨b,0,none⟩ Tryz.underlying232 Tryz.underlying327 hj (by rw [hjs];decide) hsh (Nat.zero_lt_succ 1)];simp only [Result.andThen];rw [Oper.upon_value]
 go_wp2
 rw [run_callFunc_extern Tryz.func163 (by kernel_rfl) (by kernel_rfl) (by kernel_rfl) (e:=Extern.AbiNoEscape.same) (by kernel_rfl)];rw [Lib.run_noEscape];simp only [Result.andThen];rw [Oper.upon_value]
 go_wp2
 rw [Lib.run_from_unsafe w ⟨b,0,none⟩ Tryz.underlying327 Tryz.underlying232 hj hsh liesB];simp only [Result.andThen];rw [Oper.upon_value]
 go_wp2
 go_end0
 exact⟨rfl,rfl⟩
set_option maxHeartbeats 2000000 in
set_option maxRecDepth 100000 in
theorem writeByte(b:Nat)(bs:List Value)(c:Int)(w:World)(S:Nat→Prop)(h:(bldHP b 234 5 bs).p w S)(hlen:bs.length+1≤140737488355328):
  Calls Tryz.prog 104 #[.pointer (some ⟨b,0,none⟩),.int .u8 c] w fun e w'=>e= .returned .nilIface∧∃S',(bldHP b 234 5 (bs++[.int .u8 c])).p w' S'∧Kept w w' S S':=by
 obtain⟨pv,v,hb0,hpv,hown0,hne,hS⟩:=h;have hlt0:b<w.heap.size:=by
  rcases Nat.lt_or_ge b w.heap.size with h' | h'
  ·exact h'
  ·simp [Array.getElem?_eq_none h']at hb0
 obtain⟨i0,hi,hz0,hz1,hz2⟩:=info_parts infoByte;have hcc:Calls Tryz.prog 145 #[.pointer (some ⟨b,0,none⟩)] w fun e w1=>e= .returned (.tuple #[])∧(w1.heap[b]? =some (.cells #[.pointer (some ⟨b,0,none⟩),v] 234 (0,0))∧Same w w1∧w1.heap.size≤w.heap.size∧∀k,k≠b→w1.heap[k]? =w.heap[k]?):=by
  rcases hpv with rfl | rfl
  ·refine(copyCheck_fresh b w (by rw [Lib.cell_of_heap hb0];rfl) (by simp [World.shape?,hb0]) (by simp [World.frozen?,hb0])).mono ?_;rintro e w1 ⟨rfl,rfl⟩;exact⟨rfl,by simp [World.setCell,Array.getElem?_modify,hb0],setCell_same _ _ _,Nat.le_of_eq (setCell_size _ _ _),fun k hk=>Below.heap_setCell _ _ _ _ (fun e=>hk (by simp [e]))⟩
  ·refine(copyCheck_used b w (by rw [Lib.cell_of_heap hb0];rfl)).mono ?_;rintro e w1 ⟨rfl,rfl⟩;exact⟨rfl,hb0,Same.refl _,Nat.le_refl _,fun _ _=>rfl⟩
 go_enter Tryz.func104,Tryz.ntmps104
 go_wp2_with (go_at_call 145;refine hcc.mono ?_)
 rintro e w1 ⟨rfl,hbk,hsm1,hsz1,hk1⟩;have hsz2:=hsm1.size;have hown:w1.ownsRow 0 5 1 v bs.length bs:=by
  refine⟨hown0.1,?_⟩;rcases hown0.2 with hn | ⟨g,cap,cur,rfl,hB,hg,r⟩
  ·exact .inl hn
  ·exact .inr ⟨g,cap,cur,rfl,hB,(hk1 g (fun e=>hne (by simp [Value.ownBlock,e]))).trans hg,r⟩
 have c0:w1.cell? ⟨b,0,none⟩=some (.pointer (some ⟨b,0,none⟩)):=by rw [Lib.cell_of_heap hbk];rfl
 have c1:w1.cell? ⟨b,1,none⟩=some v:=by rw [Lib.cell_of_heap hbk];rfl
 go_wp2_with (at_builtin;go_loud (refine wpList_append_row rfl _ _ 127 rfl 5 i0 (.int .u8 0) 1 1 Tryz.underlying127 hi hz0 hz1 hz2 rfl (by decide) _ _ _ rfl (hown.alloc _) ⟨w1.heap.size,0,none⟩ 1 1 [.int .u8 c] rfl rfl ?c1 ?c2 ?c3 ?c4 ?_))
 case c1=>
  intro j u hj
  match j,hj with
  | 0,hj=>simp at hj;subst hj;simp [Addr.add]
 case c2=>intro u hu;simp at hu;subst hu;rfl
 case c3=>unfold maxLen;omega
 case c4=>omega
 intro v' w2 hown' hgrow hblk;have hlt:b<w1.heap.size:=by omega
 have hb2:w2.heap[b]? =some (.cells #[.pointer (some ⟨b,0,none⟩),v] 234 (0,0)):=by
  rw [hgrow.block b (by simp;omega) (fun e=>hne e.symm),Lib.alloc_old w1 _ b hlt];exact hbk
 have d0:w2.cell? ⟨b,0,none⟩=some (.pointer (some ⟨b,0,none⟩)):=by rw [Lib.cell_of_heap hb2];rfl
 have d1:w2.cell? ⟨b,1,none⟩=some v:=by rw [Lib.cell_of_heap hb2];rfl
 have f1:w2.frozen? ⟨b,1,none⟩=false:=Lib.frozen_of_heap hb2 1;obtain⟨g,cap,rfl⟩: ∃g cap,v'= .slice (some ⟨g,0,none⟩) (bs.length+1) cap:=by
  rcases hown'.2 with⟨_,h0⟩ | ⟨g,cap,cur,hv,_⟩
  ·omega
  ·exact⟨g,cap,hv⟩
 go_wp2
 go_ret
 have hgs:w.heap.size≤w2.heap.size:=by have:=hgrow.size;simp at this;omega
 have hput:=Lib.BuilderAt.put (T:=234) (e:=5) (Nat.zero_le b) hb2 (bs':=bs++[.int .u8 c]) (by simpa using hown') (by decide);obtain⟨_,v2,q1,q2,q3⟩:=hput;have hv2:v2= .slice (some ⟨g,0,none⟩) (bs.length+1) cap:=by
  have:(w2.setCell ⟨b,1,none⟩ (.slice (some ⟨g,0,none⟩) (bs.length+1) cap)).heap[b]? =some (.cells #[.pointer (some ⟨b,0,none⟩),.slice (some ⟨g,0,none⟩) (bs.length+1) cap] 234 (0,0)):=by
   simp [World.setCell,Array.getElem?_modify,hb2]
  rw [this]at q1;simp at q1;exact q1.symm
 subst hv2;refine⟨rfl,fun k=>k=b∨some g=some k,⟨_,_,q1,.inr rfl,q2,q3,fun k=>by simp [Value.ownBlock]⟩,⟨?_,?_,?_⟩⟩
 ·exact⟨hgrow.os.trans hsm1.os,hgrow.tape.trans hsm1.tape,hgrow.output.trans hsm1.output,by rw [setCell_size];exact hgs⟩
 ·intro k hk hnS;have hnS:=mt (hS k).2 hnS;rw [Below.heap_setCell _ _ _ _ (fun e=>hnS (.inl e)),hgrow.block k (by simp;omega) (fun e=>hnS (.inr e.symm)),Lib.alloc_old w1 _ k (by omega),hk1 k (fun e=>hnS (.inl e))]
 ·intro k hk;rcases hk with rfl | hk
  ·exact .inl ((hS _).2 (.inl rfl))
  ·cases hk;rcases hblk with hb' | hb'
   ·exact .inl ((hS _).2 (.inr (by rw [←hb'];rfl)))
   ·right;simp only [Value.ownBlock,Option.some.injEq]at hb'
    try simp at hb'
    rw [setCell_size];refine⟨by omega,?_⟩;rcases hown'.2 with⟨hc,_⟩ | ⟨g',cap',cur,hv',_,hg,_⟩
    ·cases hc
    ·cases hv';rcases Nat.lt_or_ge g w2.heap.size with h' | h'
     ·exact h'
     ·simp [Array.getElem?_eq_none h']at hg
end Go.RX.Sb

namespace Go.RX.Sb
open Go.Shelf Go.RowKit Go.Proofs
theorem run_string_at{P:Program}(w:World)(t u ty e:TypeId)(i:TypeInfo)(ht:P.underlying t=some (.slice e))(hu:P.underlying u=some .string)(hi:P.info? e=some i)(hz:i.zero=some (.int .u8 0))
  (hsize:i.size=1) (hby:i.bytes=1) (v:Value) (n:Nat) (xs:List Value) (hown:w.ownsRow 0 e 1 v n xs) (s:ByteArray) (h63:n+s.size≤maxLen) (hbytes:n+s.size≤140737488355328)
  {v':Value} {w':World} (hr:(Builtin.append_ #[t,u] ty #[v,.string s]).run P w= .ok v' w'):v'.ownBlock=v.ownBlock∨v'.ownBlock=some w.heap.size:=by
 have hxl:xs.length=n:=by simpa using hown.1
 rcases hown.2 with⟨rfl,rfl⟩ | ⟨g,cap,cur,rfl,hbg,hg,hnc,hcm,hcs,htake⟩
 ·by_cases hm:s.size=0
  ·have hf:=Lib.run_firstCells_string (P:=P) w 1 s;rw [hm]at hf;simp [Builtin.append_,run_underlying ht,run_underlying hu,sizeOf,typeInfo,hi,hsize,Builtin.lenOf,hm,hf]at hr;rw [←hr.1];exact .inl rfl
  ·have h2:=run_append_nil_string (P:=P) w t u ty e i (.int .u8 0) ht hu hi hz s (by omega) (by simp only [maxLen]at h63;omega) (by rw [hby];omega);rw [h2]at hr;injection hr with h3 _
   rw [←h3];exact .inr rfl
 ·by_cases hroom:n+s.size≤cap
  ·have h2:=Lib.run_append_room_string (P:=P) w t u ty e i ht hu hi hsize g n cap cur hg s hroom (by omega);rw [h2]at hr;injection hr with h3 _
   rw [←h3];exact .inl rfl
  ·have holds: ∀j u,xs[j]? =some u→w.cell? ((⟨g,0,none⟩:Addr).add j)=some u:=hown.cells (g:=g) rfl;have h2:=Lib.run_append_grow_string (P:=P) w t u ty e i (.int .u8 0) ht hu hi hz ⟨g,0,none⟩ n cap xs (by rw [hsize];simpa using hxl) holds s (by omega) (by simp only [maxLen]at h63;omega) (by rw [hby];exact growslice_fits (by omega) (by omega));rw [h2]at hr;injection hr with h3 _
   rw [←h3];exact .inr rfl
theorem wpList_append_string{P:Program}{w:World}{ops:Array Oper}{rest:List Oper}{o:Oper}{a:Act}{Q:Exit→Act→World→Prop}(hgd:o.guard=none)(sl x:Operand)(t u:TypeId)
  (ho:o.op= .call {callee:= .builtin .append,args:= #[sl,x],argTypes:= #[t,u]})
  (e:TypeId) (i:TypeInfo) (ht:P.underlying t=some (.slice e)) (hu:P.underlying u=some .string) (hi:P.info? e=some i) (hz:i.zero=some (.int .u8 0)) (hsize:i.size=1) (hby:i.bytes=1)
  (v:Value) (n:Nat) (xs:List Value) (hs:a.eval sl=v) (hown:w.ownsRow 0 e 1 v n xs) (s:ByteArray) (hx:a.eval x= .string s) (h63:n+s.size≤maxLen) (hbytes:n+s.size≤140737488355328)
  (h: ∀v' w',w'.ownsRow 0 e 1 v' (n+s.size) (xs++Lib.strCells s)→w.grownBy w' v.ownBlock→(v'.ownBlock=v.ownBlock∨v'.ownBlock=some w.heap.size)→wpList P ops Q rest (a.put o.dst v') w'):wpList P ops Q (o::rest) a w:=by
 refine wpList_plain hgd fun K hK=>?_
 obtain⟨v',w',hr,h2,h3,_⟩:=Lib.run_append_own_string (P:=P) w 0 t u o.type e i ht hu hi hz hsize hby v n xs hown s h63 hbytes (Nat.zero_le _);have h5:=run_string_at w t u o.type e i ht hu hi hz hsize hby v n xs hown s h63 hbytes hr;unfold Oper.wp execOp;simp only [ho,resolve,invoke,builtin,Sem.run_bind,Sem.run_pure,Result.andThen_ok,List.map_toArray,List.map_cons,List.map_nil,hs,hx,hr];exact hK _ _ (h v' w' h2 h3 h5)
theorem wpList_append_none{P:Program}{w:World}{ops:Array Oper}{rest:List Oper}{o:Oper}{a:Act}{Q:Exit→Act→World→Prop}(hgd:o.guard=none)(sl x:Operand)(t:TypeId)
  (ho:o.op= .call {callee:= .builtin .append,args:= #[sl,x],argTypes:= #[t,t]})
  (e:TypeId) (i:TypeInfo) (ht:P.underlying t=some (.slice e)) (hi:P.info? e=some i) (hsize:i.size=1)
  (v:Value) (n:Nat) (xs:List Value) (hs:a.eval sl=v) (hown:w.ownsRow 0 e 1 v n xs) {c:Nat} (hx:a.eval x= .slice none 0 c)
  (h:wpList P ops Q rest (a.put o.dst v) w):wpList P ops Q (o::rest) a w:=by
 refine wpList_plain hgd fun K hK=>?_
 have hr:(Builtin.append_ #[t,t] o.type #[v,.slice none 0 c]).run P w= .ok v w:=by
  rcases hown.2 with⟨rfl,rfl⟩ | ⟨g,cap,cur,rfl,hbg,hg,hnc,hcm,hcs,htake⟩
  ·simp [Builtin.append_,run_underlying ht,sizeOf,typeInfo,hi,hsize,Builtin.lenOf,Builtin.firstCells]
  ·simp [Builtin.append_,run_underlying ht,sizeOf,typeInfo,hi,hsize,Builtin.lenOf,Builtin.firstCells,hnc,storeCells]
 unfold Oper.wp execOp;simp only [ho,resolve,invoke,builtin,Sem.run_bind,Sem.run_pure,Result.andThen_ok,List.map_toArray,List.map_cons,List.map_nil,hs,hx,hr];exact hK _ _ h
theorem cell_block{w w1:World}{p:Addr}(h:w1.heap[p.block]? =w.heap[p.block]?):w1.cell? p=w.cell? p:=by
 unfold World.cell?;rw [h]
theorem copyCheck(b:Nat)(pv v:Value)(w:World)(hb0:w.heap[b]? =some (.cells #[pv,v] 234 (0,0)))(hpv:pv= .pointer none∨pv= .pointer (some ⟨b,0,none⟩)):
  Calls Tryz.prog 145 #[.pointer (some ⟨b,0,none⟩)] w fun e w1=>e= .returned (.tuple #[])∧(w1.heap[b]? =some (.cells #[.pointer (some ⟨b,0,none⟩),v] 234 (0,0))∧Same w w1∧w1.heap.size=w.heap.size∧∀k,k≠b→w1.heap[k]? =w.heap[k]?):=by
 rcases hpv with rfl | rfl
 ·refine(copyCheck_fresh b w (by rw [Lib.cell_of_heap hb0];rfl) (by simp [World.shape?,hb0]) (by simp [World.frozen?,hb0])).mono ?_;rintro e w1 ⟨rfl,rfl⟩;exact⟨rfl,by simp [World.setCell,Array.getElem?_modify,hb0],setCell_same _ _ _,setCell_size _ _ _,fun k hk=>Below.heap_setCell _ _ _ _ (fun e=>hk (by simp [e]))⟩
 ·refine(copyCheck_used b w (by rw [Lib.cell_of_heap hb0];rfl)).mono ?_;rintro e w1 ⟨rfl,rfl⟩;exact⟨rfl,hb0,Same.refl _,rfl,fun _ _=>rfl⟩
theorem owns_move{w w1:World}{b:Nat}{v:Value}{bs:List Value}(hown0:w.ownsRow 0 5 1 v bs.length bs)(hne:v.ownBlock≠some b)(hk1: ∀k,k≠b→w1.heap[k]? =w.heap[k]?):w1.ownsRow 0 5 1 v bs.length bs:=by
 refine⟨hown0.1,?_⟩;rcases hown0.2 with hn | ⟨g,cap,cur,rfl,hB,hg,r⟩
 ·exact .inl hn
 ·exact .inr ⟨g,cap,cur,rfl,hB,(hk1 g (fun e=>hne (by simp [Value.ownBlock,e]))).trans hg,r⟩
theorem put_fin{w w1 w2:World}{b:Nat}{v v':Value}{bs':List Value}{S:Nat→Prop}(hS: ∀k,S k↔k=b∨v.ownBlock=some k)(hlt:b<w.heap.size)(hne:v.ownBlock≠some b)
  (hbk:w1.heap[b]? =some (.cells #[.pointer (some ⟨b,0,none⟩),v] 234 (0,0))) (hsm1:Same w w1) (hsz1:w1.heap.size=w.heap.size) (hk1: ∀k,k≠b→w1.heap[k]? =w.heap[k]?)
  (hown':w2.ownsRow 0 5 1 v' bs'.length bs') (hgrow:w1.grownBy w2 v.ownBlock) (hblk:v'.ownBlock=v.ownBlock∨v'.ownBlock=some w1.heap.size):
  ∃S',(bldHP b 234 5 bs').p (w2.setCell ⟨b,1,none⟩ v') S'∧Kept w (w2.setCell ⟨b,1,none⟩ v') S S':=by
 have hb2:w2.heap[b]? =some (.cells #[.pointer (some ⟨b,0,none⟩),v] 234 (0,0)):=by
  rw [hgrow.block b (by omega) (fun e=>hne e.symm)];exact hbk
 have hgs:w.heap.size≤w2.heap.size:=by have:=hgrow.size;omega
 have hv1:v'= .slice none 0 0∨∃g n cap,v'= .slice (some ⟨g,0,none⟩) n cap∧g<w2.heap.size:=by
  rcases hown'.2 with⟨hv,_⟩ | ⟨g,cap,cur,hv,_,hg,_⟩
  ·exact .inl hv
  ·refine .inr ⟨g,_,cap,hv,?_⟩;rcases Nat.lt_or_ge g w2.heap.size with h' | h'
   ·exact h'
   ·simp [Array.getElem?_eq_none h']at hg
 obtain⟨_,v2,q1,q2,q3⟩:=Lib.BuilderAt.put (T:=234) (e:=5) (Nat.zero_le b) hb2 hown' (by decide);have hv2:v2=v':=by
  have:(w2.setCell ⟨b,1,none⟩ v').heap[b]? =some (.cells #[.pointer (some ⟨b,0,none⟩),v'] 234 (0,0)):=by
   rcases hv1 with rfl | ⟨g,n,cap,rfl,_⟩<;>simp [World.setCell,Array.getElem?_modify,hb2]
  rw [this]at q1;simp at q1;exact q1.symm
 subst hv2;refine⟨fun k=>k=b∨v2.ownBlock=some k,⟨_,_,q1,.inr rfl,q2,q3,fun k=>Iff.rfl⟩,⟨?_,?_,?_⟩⟩
 ·exact⟨hgrow.os.trans hsm1.os,hgrow.tape.trans hsm1.tape,hgrow.output.trans hsm1.output,by rw [setCell_size];exact hgs⟩
 ·intro k hk hnS;have hnS:=mt (hS k).2 hnS;rw [Below.heap_setCell _ _ _ _ (fun e=>hnS (.inl e)),hgrow.block k (by omega) (fun e=>hnS (.inr e.symm)),hk1 k (fun e=>hnS (.inl e))]
 ·intro k hk;rcases hk with rfl | hk
  ·exact .inl ((hS _).2 (.inl rfl))
  ·rcases hblk with hb' | hb'
   ·exact .inl ((hS _).2 (.inr (by rw [←hb'];exact hk)))
   ·right;rw [hb']at hk;rw [setCell_size];refine⟨by have:=Option.some.inj hk;omega,?_⟩;rcases hv1 with rfl | ⟨g,n,cap,rfl,hlt2⟩
    ·cases hb'
    ·have h1:g=w1.heap.size:=by simpa [Value.ownBlock] using hb'
     have:=Option.some.inj hk;omega
set_option maxHeartbeats 2000000 in
set_option maxRecDepth 100000 in
theorem writeString(b:Nat)(bs:List Value)(s:ByteArray)(w:World)(S:Nat→Prop)(h:(bldHP b 234 5 bs).p w S)(hlen:bs.length+s.size≤140737488355328):
  Calls Tryz.prog 106 #[.pointer (some ⟨b,0,none⟩),.string s] w fun e w'=>e= .returned (.tuple #[.int .i64 s.size,.nilIface])∧∃S',(bldHP b 234 5 (bs++Lib.strCells s)).p w' S'∧Kept w w' S S':=by
 obtain⟨pv,v,hb0,hpv,hown0,hne,hS⟩:=h;have hlt0:b<w.heap.size:=by
  rcases Nat.lt_or_ge b w.heap.size with h' | h'
  ·exact h'
  ·simp [Array.getElem?_eq_none h']at hb0
 obtain⟨i0,hi,hz0,hz1,hz2⟩:=info_parts infoByte;have hcc:=copyCheck b pv v w hb0 hpv
 go_enter Tryz.func106,Tryz.ntmps106
 go_wp2_with (go_at_call 145;refine hcc.mono ?_)
 rintro e w1 ⟨rfl,hbk,hsm1,hsz1,hk1⟩;have hown:=owns_move hown0 hne hk1;have c0:w1.cell? ⟨b,0,none⟩=some (.pointer (some ⟨b,0,none⟩)):=by rw [Lib.cell_of_heap hbk];rfl
 have c1:w1.cell? ⟨b,1,none⟩=some v:=by rw [Lib.cell_of_heap hbk];rfl
 go_wp2_with (at_builtin;refine wpList_append_string rfl _ _ 127 9 rfl 5 i0 Tryz.underlying127 Tryz.underlying9 hi hz0 hz1 hz2 _ _ _ rfl hown s rfl ?c3 ?c4 ?_)
 case c3=>unfold maxLen;omega
 case c4=>omega
 intro v' w2 hown' hgrow hblk;have hb2:w2.heap[b]? =some (.cells #[.pointer (some ⟨b,0,none⟩),v] 234 (0,0)):=by
  rw [hgrow.block b (by omega) (fun e=>hne e.symm)];exact hbk
 have d0:w2.cell? ⟨b,0,none⟩=some (.pointer (some ⟨b,0,none⟩)):=by rw [Lib.cell_of_heap hb2];rfl
 have d1:w2.cell? ⟨b,1,none⟩=some v:=by rw [Lib.cell_of_heap hb2];rfl
 have f1:w2.frozen? ⟨b,1,none⟩=false:=Lib.frozen_of_heap hb2 1;have hfin:=put_fin hS hlt0 hne hbk hsm1 hsz1 hk1 (bs':=bs++Lib.strCells s) (by simpa [Lib.strCells_length] using hown') hgrow (by first | exact hblk | (rw [hsz1];exact hblk));obtain⟨ao,n',cap,rfl⟩: ∃ao n' cap,v'= .slice ao n' cap:=by
  rcases hown'.2 with⟨hv,_⟩ | ⟨g,cap,cur,hv,_⟩
  ·exact⟨_,_,_,hv⟩
  ·exact⟨_,_,_,hv⟩
 go_wp2
 go_ret2
 exact⟨rfl,hfin⟩
set_option maxHeartbeats 2000000 in
set_option maxRecDepth 100000 in
theorem write(b:Nat)(bs:List Value)(ad:Addr)(n c:Nat)(cs:List Value)(w:World)(S:Nat→Prop)(h:(bldHP b 234 5 bs).p w S)(hlen:bs.length+n≤140737488355328)
  (hcs:cs.length=n) (hat: ∀j u,cs[j]? =some u→w.cell? (ad.add j)=some u) (h1: ∀u∈cs,u.oneCell'=true) (hout:0<n→¬S ad.block):
  Calls Tryz.prog 105 #[.pointer (some ⟨b,0,none⟩),.slice (some ad) n c] w fun e w'=>e= .returned (.tuple #[.int .i64 n,.nilIface])∧∃S',(bldHP b 234 5 (bs++cs)).p w' S'∧Kept w w' S S':=by
 obtain⟨pv,v,hb0,hpv,hown0,hne,hS⟩:=h;have hlt0:b<w.heap.size:=by
  rcases Nat.lt_or_ge b w.heap.size with h' | h'
  ·exact h'
  ·simp [Array.getElem?_eq_none h']at hb0
 obtain⟨i0,hi,hz0,hz1,hz2⟩:=info_parts infoByte;have hcc:=copyCheck b pv v w hb0 hpv
 go_enter Tryz.func105,Tryz.ntmps105
 go_wp2_with (go_at_call 145;refine hcc.mono ?_)
 rintro e w1 ⟨rfl,hbk,hsm1,hsz1,hk1⟩;have hown:=owns_move hown0 hne hk1;have c0:w1.cell? ⟨b,0,none⟩=some (.pointer (some ⟨b,0,none⟩)):=by rw [Lib.cell_of_heap hbk];rfl
 have c1:w1.cell? ⟨b,1,none⟩=some v:=by rw [Lib.cell_of_heap hbk];rfl
 have hat1: ∀j u,cs[j]? =some u→w1.cell? (ad.add j)=some u:=by
  intro j u hj;rw [←hat j u hj];have hb:(ad.add j).block≠b:=by
   have:(ad.add j).block=ad.block:=by unfold Addr.add;split<;>rfl
   rw [this];exact fun e=>hout (by have:=(List.getElem?_eq_some_iff.1 hj).1;omega) ((hS _).2 (.inl e))
  exact cell_block (hk1 _ hb)
 go_wp2_with (at_builtin;refine wpList_append_row rfl _ _ 127 rfl 5 i0 (.int .u8 0) 1 1 Tryz.underlying127 hi hz0 hz1 hz2 rfl (by decide) _ _ _ rfl hown ad n c cs rfl (by omega) hat1 h1 ?c3 ?c4 ?_)
 case c3=>unfold maxLen;omega
 case c4=>omega
 intro v' w2 hown' hgrow hblk;have hb2:w2.heap[b]? =some (.cells #[.pointer (some ⟨b,0,none⟩),v] 234 (0,0)):=by
  rw [hgrow.block b (by omega) (fun e=>hne e.symm)];exact hbk
 have d0:w2.cell? ⟨b,0,none⟩=some (.pointer (some ⟨b,0,none⟩)):=by rw [Lib.cell_of_heap hb2];rfl
 have d1:w2.cell? ⟨b,1,none⟩=some v:=by rw [Lib.cell_of_heap hb2];rfl
 have f1:w2.frozen? ⟨b,1,none⟩=false:=Lib.frozen_of_heap hb2 1;have hfin:=put_fin hS hlt0 hne hbk hsm1 hsz1 hk1 (bs':=bs++cs) (by simpa [hcs] using hown') hgrow (by first | exact hblk | (rw [hsz1];exact hblk));obtain⟨ao,n',cap,rfl⟩: ∃ao n' cap,v'= .slice ao n' cap:=by
  rcases hown'.2 with⟨hv,_⟩ | ⟨g,cap,cur,hv,_⟩
  ·exact⟨_,_,_,hv⟩
  ·exact⟨_,_,_,hv⟩
 go_wp2
 go_ret2
 exact⟨rfl,hfin⟩
set_option maxHeartbeats 2000000 in
set_option maxRecDepth 100000 in
theorem write_nil(b c:Nat)(bs:List Value)(w:World)(S:Nat→Prop)(h:(bldHP b 234 5 bs).p w S):
  Calls Tryz.prog 105 #[.pointer (some ⟨b,0,none⟩),.slice none 0 c] w fun e w'=>e= .returned (.tuple #[.int .i64 0,.nilIface])∧∃S',(bldHP b 234 5 bs).p w' S'∧Kept w w' S S':=by
 obtain⟨pv,v,hb0,hpv,hown0,hne,hS⟩:=h;have hlt0:b<w.heap.size:=by
  rcases Nat.lt_or_ge b w.heap.size with h' | h'
  ·exact h'
  ·simp [Array.getElem?_eq_none h']at hb0
 obtain⟨i0,hi,hz0,hz1,hz2⟩:=info_parts infoByte;have hcc:=copyCheck b pv v w hb0 hpv
 go_enter Tryz.func105,Tryz.ntmps105
 go_wp2_with (go_at_call 145;refine hcc.mono ?_)
 rintro e w1 ⟨rfl,hbk,hsm1,hsz1,hk1⟩;have hown:=owns_move hown0 hne hk1;have c0:w1.cell? ⟨b,0,none⟩=some (.pointer (some ⟨b,0,none⟩)):=by rw [Lib.cell_of_heap hbk];rfl
 have c1:w1.cell? ⟨b,1,none⟩=some v:=by rw [Lib.cell_of_heap hbk];rfl
 have f1:w1.frozen? ⟨b,1,none⟩=false:=Lib.frozen_of_heap hbk 1;have hfin:=put_fin hS hlt0 hne hbk hsm1 hsz1 hk1 (bs':=bs) hown ⟨rfl,rfl,rfl,Nat.le_refl _,fun _ _ _=>rfl⟩ (.inl rfl);obtain⟨ao,n',cap,rfl⟩: ∃ao n' cap,v= .slice ao n' cap:=by
  rcases hown.2 with⟨hv,_⟩ | ⟨g,cap,cur,hv,_⟩
  ·exact⟨_,_,_,hv⟩
  ·exact⟨_,_,_,hv⟩
 go_wp2_with (at_builtin;refine wpList_append_none rfl _ _ 127 rfl 5 i0 Tryz.underlying127 hi hz1 _ _ _ rfl hown rfl ?_)
 go_wp2
 go_ret2
 exact⟨rfl,hfin⟩
end Go.RX.Sb

namespace Go.RX.Gq
open Go.Proofs Go.RowKit
section
variable {P:Program} {f:Nat} {args:List Value} {v:Value}
theorem meets_one{h0 h1:HP}(hw:h0.wr=true)(h: ∀w S,h0.p w S→Calls P f args.toArray w fun e w'=>e= .returned v∧∃S',h1.p w' S'∧Sb.Kept w w' S S'):Meets P f args [h0] fun x hs=>x=v∧hs=[h1]:=by
 intro w Fs ho;obtain⟨S,hS⟩:=ho;refine(h w (S 0) (hS.at_ 0 h0 rfl).1).mono ?_;rintro e w' ⟨rfl,S',hp,hk⟩;exact⟨v,[h1],rfl,⟨rfl,rfl⟩,⟨_,hS.step 0 h0 h1 rfl hw S' hk.same.size hk.old hp hk.sub⟩,hk.same⟩
theorem meets_drop{h0:HP}(hw:h0.wr=true)(h: ∀w S,h0.p w S→Calls P f args.toArray w fun e w'=>e= .returned v∧Same w w'∧∀k,k<w.heap.size→¬S k→w'.heap[k]? =w.heap[k]?):Meets P f args [h0] fun x hs=>x=v∧hs=[]:=by
 intro w Fs ho;obtain⟨S,hS⟩:=ho;refine(h w (S 0) (hS.at_ 0 h0 rfl).1).mono ?_;rintro e w' ⟨rfl,hsm,hk⟩;have hs:=hS.step 0 h0 HP.emp rfl hw (fun _=>False) hsm.size hk (fun _ h=>h) (fun _ h=>h.elim);have:Owns ([HP.emp]++Fs) w':=⟨_,hs⟩;exact⟨v,[],rfl,⟨rfl,rfl⟩,Owns.sub this (List.sublist_cons_self _ _),hsm⟩
end
theorem wb_meets(b:Nat)(bs:List Value)(c:Int)(hl:bs.length+1≤140737488355328):
  Meets Tryz.prog 104 [.pointer (some ⟨b,0,none⟩),.int .u8 c] [bldHP b 234 5 bs] fun r hs=>r= .nilIface∧hs=[bldHP b 234 5 (bs++[.int .u8 c])]:=
 meets_one rfl fun w S h=>Sb.writeByte b bs c w S h hl
theorem ws_meets(b:Nat)(bs:List Value)(l:List UInt8)(hl:bs.length+l.length≤140737488355328):
  Meets Tryz.prog 106 [.pointer (some ⟨b,0,none⟩),.string ⟨l.toArray⟩] [bldHP b 234 5 bs] fun r hs=>r= .tuple #[.int .i64 l.length,.nilIface]∧hs=[bldHP b 234 5 (bs++Lib.byteCells l)]:=
 meets_one rfl fun w S h=>Sb.writeString b bs ⟨l.toArray⟩ w S h hl
theorem wr_meets(b:Nat)(bs:List Value)(v:Value)(n:Nat)(cs:List Value)(hl:bs.length+n≤140737488355328)(h1: ∀u∈cs,u.oneCell'=true):
  Meets Tryz.prog 105 [.pointer (some ⟨b,0,none⟩),v] [bldHP b 234 5 bs,sliHP false 5 1 v n cs] fun r hs=>r= .tuple #[.int .i64 n,.nilIface]∧hs=[bldHP b 234 5 (bs++cs),sliHP false 5 1 v n cs]:=by
 intro w Fs ho;obtain⟨S,hS⟩:=ho;obtain⟨a0,c0⟩:=(hS.at_ 1 _ rfl).1;simp only [Bool.false_eq_true,if_false,false_or]at a0 c0;obtain⟨hcl,a,m,c,rfl,rfl,hmc,hn0,had⟩:=a0;rw [Nat.mul_one]at hcl;have key:Calls Tryz.prog 105 #[.pointer (some ⟨b,0,none⟩),.slice a m c] w fun e w'=>e= .returned (.tuple #[.int .i64 m,.nilIface])∧∃S',(bldHP b 234 5 (bs++cs)).p w' S'∧Sb.Kept w w' (S 0) S':=by
  cases a with
  | none=>
   have hm:m=0:=hn0 rfl;subst hm;have:cs=[]:=List.eq_nil_of_length_eq_zero hcl;subst this;rw [List.append_nil];exact Sb.write_nil b c bs w _ (hS.at_ 0 _ rfl).1
  | some ad=>
   refine Sb.write b bs ad m c cs w _ (hS.at_ 0 _ rfl).1 hl hcl (had ad rfl).2 h1 fun hm h=>?_
   exact hS.apart 0 1 _ _ (by omega) rfl rfl (.inl rfl) ad.block h ((c0 ad.block).2 ⟨rfl,hm⟩)
 refine key.mono ?_;rintro e w' ⟨rfl,S',hp,hk⟩;exact⟨_,_,rfl,⟨rfl,rfl⟩,⟨_,hS.step 0 _ (bldHP b 234 5 (bs++cs)) rfl rfl S' hk.same.size hk.old hp hk.sub⟩,hk.same⟩
theorem st_meets(b:Nat)(l:List UInt8)(h0:l≠[]):
  Meets Tryz.prog 107 [.pointer (some ⟨b,0,none⟩)] [bldHP b 234 5 (Lib.byteCells l)] fun r hs=>r= .string ⟨l.toArray⟩∧hs=[]:=
 meets_drop rfl fun w S h=>Sb.string Tryz.lays169 Tryz.Builder_Extra_169 b l w S h h0
end Go.RX.Gq

namespace Go.RX.Gf
open Go.RX Go.Proofs
noncomputable def cxB(l:List Nat):Ctx:={T:=TT,FT:=FT,loops:=Gf.loops,callees:=Gf.calleesBut l}
noncomputable abbrev cxK:=cxB [21]
noncomputable abbrev cxH:=cxB [53]
noncomputable abbrev cxR:=cxB [51]
noncomputable abbrev cxS:=cxB [97]
noncomputable abbrev cxO:=cxB [98]
noncomputable abbrev cxW:=cxB [14]
noncomputable abbrev cxT:=cxB [54]
noncomputable abbrev cxU:=cxB [11]
noncomputable abbrev cxE:=cxB [9]
noncomputable abbrev cxF:=cxB [58,57,13]
end Go.RX.Gf

namespace Go.RX.Gf
open Go.RX Go.Proofs Go.RX.Gb
set_option maxRecDepth 100000
def st_clone(Post:PT)(_ _ _ x3:Int)(_ A1 A2:Nat→Int)(v0:V1):Prop:=
 Fork (nilSl v0.v=true) (
 Post (.slice none 0 0) [dK true v0 x3 A1 A2]) (
 ∀_:V1,Need (0≤x3) (
 Need (0≤x3) (
 U47 (x3*2) (
 ∀v2:V1,Post (v2.v) [dK true v0 x3 A1 A2,dK true v2 x3 A1 A2]))))
theorem mt_clone(Post:PT)(x0 x1 x2 x3:Int)(A0 A1 A2:Nat→Int)(v0:V1)(h:st_clone Post x0 x1 x2 x3 A0 A1 A2 v0):Meets Tryz.prog 52 [v0.v] [dK true v0 x3 A1 A2] Post:=
 mtI (C:=cxF) Gf.smallA Gf.hasHp Gf.hasCnt ⟨[x0,x1,x2,x3],[A0,A1,A2],[],[],[v0],[],[],[]⟩ Tryz.func52 (by kernel_rfl) h
end Go.RX.Gf
