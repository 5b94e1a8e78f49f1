/- Executor. -/
import Derived.Test.YtllcdnkfbeokhaaGreatRxOe
open Go.Builtin renaming append_ → aqJ, zeroCells → aqM
open Go.Result renaming andThen_ok → aqu
open Go.Sem renaming run_bind → aqA, run_pure → aqH
open Int renaming toNat → ag, toNat_natCast → aqD
open List renaming eq_nil_of_length_eq_zero → aqF, getElem?_eq_none → aq3, length_append → aql, map_cons → aqP, mem_cons_of_mem → aqv
open Option renaming map_eq_some_iff → aqq
open Option.some renaming injEq → aqp
namespace Go.RX
variable {P:Program} {w:World}
theorem AE(t ti ty e:TypeId)(kt:IntKind)(i:TypeInfo)(z:Value)(ht:P.underlying t=some (.slice e))(cO:P.underlying ti=some (.int kt))(hi:P.info? e=some i)(hz:i.zero=some z)
  (k:IntKind) (m:Nat) (g o:Nat) (n cap:Nat) (fy:0<i.size) (hm:0<m) (hw:IntKind.i64.wrap (m:Int)=m) (hb: ¬(2^48:Int)<(m:Int)*i.bytes) (tQ:n+m≤cap) {w':World}
  (qs:(storeCells ⟨g,o+n*i.size,none⟩ (aqM z.cells m).toList).run P w= .ok () w'):
  (aqJ #[t,ti] ty #[.slice (some ⟨g,o,none⟩) n cap,.int k (m:Int)]).run P w= .ok (.slice (some ⟨g,o,none⟩) (n+m) cap) w':=by
 have h0: ¬(m:Int)<0:=by omega
 have fg: ¬m*i.size=0:=Nat.ne_of_gt (Nat.mul_pos hm fy);have FU: ¬(281474976710656:Int)<(m:Int)*i.bytes:=hb;simp [aqJ,run_underlying ht,run_underlying cO,sizeOf,typeInfo,zeroValue,hi,hz,asInt,asIntOf,hw,h0,FU,tQ,fg,fw,qs]
theorem yS(t ti ty e:TypeId)(kt:IntKind)(i:TypeInfo)(z:Value)(ht:P.underlying t=some (.slice e))(cO:P.underlying ti=some (.int kt))(hi:P.info? e=some i)(hz:i.zero=some z)
  (k:IntKind) (m:Nat) (base:Option Addr) (n cap:Nat) (Y_:List Value) (hold:(Builtin.firstCells i.size n (.slice base n cap)).run P w.drew= .ok Y_.toArray w.drew)
  (fy:0<i.size) (hw:IntKind.i64.wrap (m:Int)=m) (hb: ¬(2^48:Int)<(m:Int)*i.bytes) (hg:cap<n+m) (hm:0<m) (Qp:((n+m:Nat):Int)≤9223372036854775807) (sK:Builtin.nextslicecap (n+m) cap*i.bytes≤281474976710656):
  (aqJ #[t,ti] ty #[.slice base n cap,.int k (m:Int)]).run P w=
   .ok (.slice (some ⟨w.heap.size,0,none⟩) (n+m) (grownCap w (n+m) cap e))
    (w.drew.alloc (.cells (Y_.toArray++aqM z.cells m++aqM z.cells (grownCap w (n+m) cap e - (n+m))) e)):=by
 have h0: ¬(m:Int)<0:=by omega
 have fg: ¬m*i.size=0:=Nat.ne_of_gt (Nat.mul_pos hm fy);have FU: ¬(281474976710656:Int)<(m:Int)*i.bytes:=hb;have hn: ¬(n+m≤cap):=by omega
 have adx: ¬(9223372036854775807<((n:Int)+(m:Int))):=by omega
 have ady: ¬(281474976710656<Builtin.nextslicecap (n+m) cap*i.bytes):=by omega
 simp [aqJ,run_underlying ht,run_underlying cO,sizeOf,typeInfo,zeroValue,hi,hz,asInt,asIntOf,hw,h0,FU,hn,adx,ady,fg,Question.forced,hold,newRow,grownCap]
theorem pM(t ti ty e:TypeId)(kt:IntKind)(i:TypeInfo)(z:Value)(size bytes:Nat)(ht:P.underlying t=some (.slice e))(cO:P.underlying ti=some (.int kt))(hi:P.info? e=some i)(hz:i.zero=some z)
  (jY:i.size=size) (uT:i.bytes=bytes) (pK:z.cells.size=size) (fy:0<size)
  (v:Value) (n:Nat) (xs:List Value) (cY:w.jk e size v n xs)
  (k:IntKind) (m:Nat) (h1: ∀u∈(aqM z.cells m).toList,u.oneCell'=true) (Qp:n+m≤140737488355328) (o_:(n+m)*bytes≤140737488355328):
  ∃v' w',(aqJ #[t,ti] ty #[v,.int k (m:Int)]).run P w= .ok v' w'∧w'.jk e size v' (n+m) (xs++(aqM z.cells m).toList)∧w.grownBy w' v.ownBlock∧
   (v'.ownBlock=v.ownBlock∨v'.ownBlock=some w.heap.size):=by
 subst jY;subst uT;have hw:IntKind.i64.wrap (m:Int)=m:=vd .i64 _ (by show(-9223372036854775808:Int)≤_;omega) (by show _≤(9223372036854775807:Int);omega);have hmb:m*i.bytes≤140737488355328:=by
  rw [Nat.add_mul]at o_;omega
 have hb: ¬(2^48:Int)<(m:Int)*i.bytes:=by
  rw [←Int.natCast_mul];have:(2^48:Int)=281474976710656:=by decide
  omega
 have tq:(aqM z.cells m).toList.length=m*i.size:=by rw [Array.length_toList,size_zeroCells,pK]
 have hlen:(xs++(aqM z.cells m).toList).length=(n+m)*i.size:=by rw [aql,cY.1,tq,Nat.add_mul]
 by_cases Gr:m=0
 ·subst Gr;have Y3:(aqM z.cells 0).toList=[]:=aqF (by simpa using tq);have Mw:IntKind.i64.wrap 0=0:=hw;refine⟨v,w,?_,by rw [Y3];simpa using cY,⟨rfl,rfl,rfl,Nat.le_refl _,fun _ _ _=>rfl⟩,.inl rfl⟩;rcases cY.2 with⟨rfl,rfl⟩ | ⟨g,o,cap,cur,rfl,_,Dc,_⟩
  ·simp [aqJ,run_underlying ht,run_underlying cO,sizeOf,typeInfo,hi,asInt,asIntOf,Mw]
  ·simp [aqJ,run_underlying ht,run_underlying cO,sizeOf,typeInfo,hi,asInt,asIntOf,Mw,Dc,storeCells]
 have hm:0<m:=by omega
 have grow: ∀(base:Option Addr) (cap:Nat),(Builtin.firstCells i.size n (.slice base n cap)).run P w.drew= .ok xs.toArray w.drew→cap<n+m→v= .slice base n cap→
   ∃v' w',(aqJ #[t,ti] ty #[v,.int k (m:Int)]).run P w= .ok v' w'∧w'.jk e i.size v' (n+m) (xs++(aqM z.cells m).toList)∧w.grownBy w' v.ownBlock∧
   (v'.ownBlock=v.ownBlock∨v'.ownBlock=some w.heap.size):=by
  intro base cap hold hg hv;subst hv;have lN:=grownCap_ge w (n+m) cap e;have MG:grownCap w (n+m) cap e≤maxLen:=grownCap_le_maxLen w (n+m) cap e (by unfold maxLen;omega);have hr:=yS (P:=P) (w:=w) t ti ty e kt i z ht cO hi hz k m base n cap xs hold fy hw hb hg hm (by omega) (growslice_fits (by omega) o_);refine⟨_,_,hr,⟨hlen,.inr ⟨w.heap.size,0,_,_,rfl,⟨e,_,heap_alloc_new w.drew _,.zero _⟩,lN,MG,?_,?_⟩⟩,⟨rfl,rfl,rfl,by simp,fun k hk _=>heap_alloc_old w.drew _ hk⟩,Or.inr rfl⟩
  ·simp only [Array.size_append,List.size_toArray,size_zeroCells,pK,cY.1,←Nat.add_mul,Nat.zero_add];intro _;apply Nat.le_of_eq;congr 1;omega
  ·simp only [Array.toList_append,List.drop_zero];rw [←hlen];exact List.take_left
 rcases cY.2 with⟨rfl,rfl⟩ | ⟨g,o,cap,cur,rfl,⟨t',fz,hg,Gi⟩,Dc,QX,mC,AY⟩
 ·have hx:xs=[]:=aqF (by simpa using cY.1);subst hx;exact grow none 0 (by simp [Builtin.firstCells]) (by omega) rfl
 ·by_cases tQ:n+m≤cap
  ·have mC:=mC (by omega);have hmul:(n+m)*i.size≤cap*i.size:=Nat.mul_le_mul_right _ tQ;rw [Nat.add_mul]at hmul;have sK:o+n*i.size+(aqM z.cells m).toList.length≤cur.size:=by omega
   have qs:=fA (P:=P) g (o+n*i.size) t' fz (aqM z.cells m).toList 0 cur w hg Gi (by simpa using sK) h1;simp only [Nat.add_zero]at qs;have hr:=AE (P:=P) (w:=w) t ti ty e kt i z ht cO hi hz k m g o n cap fy hm hw hb tQ qs;refine⟨_,_,hr,⟨hlen,.inr ⟨g,o,cap,_,rfl,⟨t',fz,setRow_heap w g cur _ t' _ hg,by refine Eq.mp (congrArg (qh · fz) ?_) Gi;simp only [List.size_toArray,aql,List.length_take,List.length_drop,Array.length_toList]at sK ⊢;omega⟩,tQ,QX,?_,?_⟩⟩,⟨rfl,rfl,rfl,by simp,fun k _ hk=>setRow_other w g k _ (fun e=>hk (by simp [Value.ownBlock,e]))⟩,Or.inl rfl⟩
   ·simp only [List.size_toArray,aql,List.length_take,List.length_drop,Array.length_toList]at sK ⊢;intro _;omega
   ·have:=qt cur.toList (aqM z.cells m).toList o (n*i.size) ((n+m)*i.size) (by rw [Nat.add_mul];omega) (by rw [Nat.add_mul];simp only [Array.length_toList]at sK ⊢;omega);simp only;rw [this,List.take_take,Nat.min_eq_left (by rw [Nat.add_mul];omega),AY,tq,←Nat.add_mul,List.drop_eq_nil_of_le (by rw [List.length_take];exact Nat.min_le_left _ _),List.append_nil]
  ·exact grow (some ⟨g,o,none⟩) cap (run_firstCells_some (P:=P) w.drew i.size n ⟨g,o,none⟩ n cap xs cY.1 (by simpa using jZ cY)) (by omega) rfl
section
variable {ρ:Env} {hp:List Ck} {S:Nat→Nat→Prop} {nb nv:Nat} {T:List TI}
theorem AF(hT:bx P T=true){ts t':TypeId}{tt ti:TI}(fQ:aP T ts=some tt)(Za:aP T t'=some ti){kt:IntKind}(hkt:ti.k= .int kt){x:SV}{m:E}{res:gY}(h:B5 T hp nv tt.k x m=some res)
  (cN:Reads hp ρ w S res.rd) (bY: ∀b∈res.vcs,b.prop ρ) (k:IntKind) (ty:TypeId):
  Did P ρ w hp S nb nv ((do pure (.value (←aqJ #[ts,t'] ty #[x.val ρ,.int k (m.den ρ 0)])):Sem Next).run P w) res:=by
 unfold B5 at h;split at h
 ·rename_i t v hk;split at h
  ·rename_i te j md t2 s n ay iJ hj;split at h
   ·rename_i zc yJ;split at h
    ·rename_i aN eT;split at h
     ·rename_i fZ;obtain⟨rfl,hs,hw⟩:=fZ;cases h;simp only at bY cN;obtain⟨rfl,pg⟩:=aA hT fQ;obtain⟨rfl,cO⟩:=aA hT iJ;obtain⟨rfl,htj⟩:=aA hT Za;have df:=pg.kind;rw [hk]at df;have hu:=bH df;have Zb:=htj.kind;rw [hkt]at Zb;have huj:=j7 Zb;obtain⟨i,hi,fy,uT,z,hz,hc⟩:=cO.info;have pK:z.cells.size=te.size:=by rw [←Array.length_toList,←hc ρ,bh,cO.AB]
      obtain⟨v1,v3⟩:=bw bY;obtain⟨v1,v2⟩:=bw v1;have v1:=aZ v1;have v2:=aZ v2;simp only [E.den]at v1 v2;obtain⟨z1,z2,z3⟩:=fS (ρ:=ρ) yJ;have vl:(dB n m).den ρ 0=n.den ρ 0+m.den ρ 0:=bB ..;obtain⟨b1,b2⟩:=iM (n:=dB n m) (bytes:=te.bytes) (v3 _ (by simp)) (by rw [vl];omega);have mJ:((dB n m).den ρ 0).toNat=(n.den ρ 0).toNat+(m.den ρ 0).toNat:=by rw [vl];omega
      rw [mJ]at b1 b2;obtain⟨hj0,Zc⟩:=cK hj;have Zc:v=md:=by simpa [Ck.lP] using Zc
      subst Zc;obtain⟨cY,lF⟩:=cN j (by simp) _ hj0;simp only [if_true]at cY;have UT:m.den ρ 0=(((m.den ρ 0).toNat:Nat):Int):=by omega
      have Qm:(aqM z.cells (m.den ρ 0).toNat).toList=aF ρ (m.den ρ 0).toNat zc:=by
       rw [tU yJ,hc ρ];exact tN _ _ (by omega)
      obtain⟨v',w',r1,r2,r3,r5⟩:=pM (P:=P) (w:=w) tt.t ti.t ty te.t kt i z te.size te.bytes hu huj hi hz fy uT pK z3 _ _ _ (by rw [←hs];exact cY) k (m.den ρ 0).toNat (by rw [Qm];exact pf _ _) b2 b1;have gp:aF ρ ((dB n m).den ρ 0).toNat aN=aF ρ (n.den ρ 0).toNat ay++aF ρ (m.den ρ 0).toNat zc:=by
       rw [mJ];obtain⟨c1,c2,c3⟩:=gN (ρ:=ρ) v1 v2 eT;rw [cH,g9];congr 1
       ·exact cT fun k hk=>by rw [c3,if_neg (by omega)]
       ·exact cT fun k hk=>by rw [c3,if_pos (by omega)];congr 1;omega
      refine⟨te.t,s,_,aN,v',w',fun k=>v'.ownBlock=some k,rfl,rfl,by rw [UT];simp only [SV.val,aqA,r1,aqu,aqH],?_,⟨_,hj0,rfl⟩,⟨r3.os,r3.tape,r3.output,r3.size⟩,?_,⟨?_,fun k=>⟨fun h=>⟨h,.inl rfl⟩,fun h=>h.1⟩⟩,?_⟩
      ·rcases r2.2 with⟨rfl,_⟩ | ⟨g,o,cap,cur,rfl,_⟩<;>rfl
      ·intro k hk hn;exact r3.block k hk fun he=>hn ((lF k).2 ⟨he.symm,.inl rfl⟩)
      ·simp only [if_true];rw [gp,mJ,hs,←Qm];exact r2
      ·intro k hk;rcases r5 with h | h
       ·left;rw [lF k,←h];exact⟨hk,.inl rfl⟩
       ·right;rw [hk]at h;cases h;exact⟨Nat.le_refl _,iS r2 hk⟩
     ·cases h
    ·cases h
   ·cases h
  ·cases h
 ·rename_i t hk;split at h
  ·rename_i te iJ;split at h
   ·rename_i zc yJ;split at h
    ·rename_i hw;cases h;simp only at bY;obtain⟨rfl,pg⟩:=aA hT fQ;obtain⟨rfl,cO⟩:=aA hT iJ;obtain⟨rfl,htj⟩:=aA hT Za;have df:=pg.kind;rw [hk]at df;have hu:=bH df;have Zb:=htj.kind;rw [hkt]at Zb;have huj:=j7 Zb;obtain⟨i,hi,fy,uT,z,hz,hc⟩:=cO.info;have pK:z.cells.size=te.size:=by rw [←Array.length_toList,←hc ρ,bh,cO.AB]
     obtain⟨v2,v3⟩:=bw bY;have v2:=aZ v2;simp only [E.den]at v2;obtain⟨z1,z2,z3⟩:=fS (ρ:=ρ) yJ;obtain⟨b1,b2⟩:=iM (n:=m) (bytes:=te.bytes) (v3 _ (by simp)) v2;have UT:m.den ρ 0=(((m.den ρ 0).toNat:Nat):Int):=by omega
     have Qm:(aqM z.cells (m.den ρ 0).toNat).toList=aF ρ (m.den ρ 0).toNat zc:=by
      rw [tU yJ,hc ρ];exact tN _ _ (by omega)
     obtain⟨v',w',r1,r2,r3,r5⟩:=pM (P:=P) (w:=w) tt.t ti.t ty te.t kt i z te.size te.bytes hu huj hi hz fy uT pK z3 (.slice none 0 0) 0 [] (mB w te.t te.size) k (m.den ρ 0).toNat (by rw [Qm];exact pf _ _) (by rw [Nat.zero_add];exact b2) (by rw [Nat.zero_add];exact b1);refine⟨te.t,te.size,_,zc,v',w',fun k=>v'.ownBlock=some k,rfl,rfl,by rw [UT];simp only [SV.val,aqA,r1,aqu,aqH],?_,⟨r3.os,r3.tape,r3.output,r3.size⟩,fun k hk=>r3.block k hk (by simp [Value.ownBlock]),⟨?_,fun k=>⟨fun h=>⟨h,.inl rfl⟩,fun h=>h.1⟩⟩,?_⟩
     ·rcases r2.2 with⟨rfl,_⟩ | ⟨g,o,cap,cur,rfl,_⟩<;>rfl
     ·simp only [if_true];rw [←Qm];simpa using r2
     ·intro k hk;rcases r5 with h | h
      ·rw [hk]at h;cases h
      ·rw [hk]at h;cases h;exact⟨Nat.le_refl _,iS r2 hk⟩
    ·cases h
   ·cases h
  ·cases h
 ·cases h
end
variable {P:Program} {w:World}
section
variable {ρ:Env} {hp:List Ck} {S:Nat→Nat→Prop} {nb nv:Nat} {T:List TI}
theorem DW{b t:Nat}{cs:List Value}{S':Nat→Prop}(h:(ak b true cs).p w S')(hl:cs.length≤maxLen):w.jk t 1 (.slice (some ⟨b,0,none⟩) cs.length cs.length) cs.length cs:=by
 obtain⟨_,ty,fz,hb,hf⟩:=h;have:=hf rfl;subst this;refine⟨by omega,.inr ⟨b,0,cs.length,_,rfl,⟨ty,_,hb,.zero _⟩,Nat.le_refl _,hl,fun _=>by simp,by simp⟩⟩
theorem xA(hT:bx P T=true){ts:TypeId}{tt:TI}(fQ:aP T ts=some tt){x y:SV}{res:gY}(h:vm T hp nv tt.k x y=some res)
  (cN:Reads hp ρ w S res.rd) (bY: ∀b∈res.vcs,b.prop ρ) (ty:TypeId):
  Did P ρ w hp S nb nv ((do pure (.value (←aqJ #[ts,ts] ty #[x.val ρ,y.val ρ])):Sem Next).run P w) res:=by
 unfold vm at h;split at h
 case h_2=>cases h
 rename_i t b ix s n m hk;split at h
 case h_2=>cases h
 rename_i te j b' cs q iJ Ra hix hn;split at h
 case h_2=>cases h
 rename_i ki kl a sc JT jt;split at h
 case isFalse=>cases h
 rename_i hc;obtain⟨rfl,rfl,JU,hq,MF⟩:=hc;rw [aqq]at h;obtain⟨aN,eT,rfl⟩:=h;simp only at bY cN;obtain⟨rfl,pg⟩:=aA hT fQ;obtain⟨rfl,cO⟩:=aA hT iJ;have df:=pg.kind;rw [hk]at df;have hu:=bH df;obtain⟨i,hi,fy,uT,z,hz,hcz⟩:=cO.info;have pK:z.cells.size=te.size:=by rw [←Array.length_toList,←hcz ρ,bh,cO.AB]
 obtain⟨v1,v3⟩:=bw bY;obtain⟨v1,v2⟩:=bw v1;have v2:=aZ v2;simp only [E.den]at v2;have Zd:n.den ρ 0=(q:Int):=bU (ρ:=ρ) hn;have Ze:ix.den ρ 0=((0:Nat):Int):=bU (ρ:=ρ) hix;obtain⟨_,s2,s3⟩:=fR (te:=te) jt (fun j hj=>cN j (aqv _ hj)) v1 v2;have vl:(dB (.lit (q:Int)) sc.n).den ρ 0=(q:Int)+sc.n.den ρ 0:=by rw [bB];rfl
 obtain⟨b1,b2⟩:=iM (n:=dB (.lit (q:Int)) sc.n) (bytes:=te.bytes) (v3 _ (by simp)) (by rw [vl];omega);have mJ:((dB (.lit (q:Int)) sc.n).den ρ 0).toNat=q+(sc.n.den ρ 0).toNat:=by rw [vl];omega
 rw [mJ]at b1 b2;obtain⟨hj,dK⟩:=de Ra;simp only [Ck.rK,beq_iff_eq]at dK;subst dK;have hS:=cN j (by simp) _ hj;have gp:SV.ao ρ cs=aj ki q (a.den ρ):=by
  have Rc:=gJ (ρ:=ρ) JT;rw [MF,List.length_replicate,o4]at Rc;exact Rc
 have hlen:(SV.ao ρ cs).length=q:=by rw [gp,aD]
 have JQ:(ak (ρ.bv.getD b 0) true (SV.ao ρ cs)).p w (S j):=hS;have cY:=DW (t:=te.t) JQ (by rw [hlen];unfold maxLen;omega);rw [hlen,gp]at cY;have lF: ∀k,S j k↔k=ρ.bv.getD b 0:=JQ.1;obtain⟨v',w',r1,r2,r3,r5⟩:=nU (P:=P) (w:=w) tt.t ty te.t i z te.size te.bytes hu hi hz fy uT pK (by omega) _ q _ (by rw [JU];exact cY)
  _ _ _ s3 (by rw [dS,s2]) (pf _ _) (by unfold maxLen;omega) b1
 have Gs:(SV.sl b ix 1 n n).val ρ= .slice (some ⟨ρ.bv.getD b 0,0,none⟩) q q:=by simp [SV.val,Zd,Ze]
 have MI:aF ρ ((dB (.lit (q:Int)) sc.n).den ρ 0).toNat aN=aj ki q (a.den ρ)++aF ρ (sc.n.den ρ 0).toNat sc.ay:=by
  rw [mJ];obtain⟨c1,c2,c3⟩:=gN (ρ:=ρ) (at_:= .lit (q:Int)) (by show(0:Int)≤(q:Int);omega) v2 eT;have hqd:((E.lit (q:Int)).den ρ 0).toNat=q:=by show ag (q:Int)=q;omega
  rw [hqd]at c3;rw [←dT ki q a,cH,g9];congr 1
  ·exact cT fun k hk=>by rw [c3,if_neg (by omega)]
  ·exact cT fun k hk=>by rw [c3,if_pos (by omega)];congr 1;omega
 refine⟨te.t,1,_,aN,v',w',fun k=>v'.ownBlock=some k,rfl,rfl,by rw [Gs];simp only [aqA,r1,aqu,aqH],?_,⟨_,hj,rfl⟩,⟨r3.os,r3.tape,r3.output,r3.size⟩,?_,⟨?_,fun k=>⟨fun h=>⟨h,.inl rfl⟩,fun h=>h.1⟩⟩,?_⟩
 ·rcases r2.2 with⟨rfl,_⟩ | ⟨g,o,cap,cur,rfl,_⟩<;>rfl
 ·intro k hk Rd;refine r3.block k hk fun he=>Rd ((lF k).2 ?_)
  simp only [Value.ownBlock,aqp]at he;exact he
 ·simp only [if_true];rw [MI,mJ,←JU];exact r2
 ·intro k hk;rcases r5 with h | h
  ·left;rw [hk]at h;simp only [Value.ownBlock,aqp]at h;exact(lF k).2 h
  ·right;rw [hk]at h;cases h;exact⟨Nat.le_refl _,iS r2 hk⟩
theorem tV: ∀{cs:List SV} {l:List Nat},xS cs=some l→SV.ao ρ cs=l.map fun n=>(ρ.vv.getD n V1.nil).v
 | [],l,h=>by cases h;rfl
 | .vv i::r,l,h=>by
  simp only [xS,aqq]at h;obtain⟨l',h',rfl⟩:=h;simp only [SV.ao,SV.cells,tV h',aqP,List.singleton_append]
theorem r8{x:SV}{j:Nat}{l:List Nat}(h:tW hp x=some (j,l))(cN:Reads hp ρ w S [j]):
  ∃b c,x.val ρ= .slice (some ⟨b,0,none⟩) l.length c∧∀(k:Nat) u,(l.map fun n=>(ρ.vv.getD n V1.nil).v)[k]? =some u→w.cell? ((⟨b,0,none⟩:Addr).add k)=some u:=by
 unfold tW at h;split at h
 case h_2=>cases h
 rename_i b i s n m;split at h
 case h_2=>cases h
 rename_i j' b' wr cs q hf hi hn;split at h
 case h_2=>cases h
 rename_i l' hl;split at h
 case isFalse=>cases h
 rename_i hq;cases h;obtain⟨hj,dK⟩:=de hf;simp only [Ck.rK,beq_iff_eq]at dK;subst dK;have hS:(ak (ρ.bv.getD b 0) wr (SV.ao ρ cs)).p w (S j):=cN j (by simp) _ hj;obtain⟨_,ty,fz,hg,_⟩:=hS;have Zd:=bU (ρ:=ρ) hn;have Ze:=bU (ρ:=ρ) hi;refine⟨ρ.bv.getD b 0,(m.den ρ 0).toNat,by simp [SV.val,Zd,Ze,hq],fun k u hu=>?_⟩;rw [←tV hl]at hu;rw [fw];simp only [World.cell?,hg];simpa using hu
theorem Re(l:List Nat):aF ρ l.length [⟨.FP l,1,.lit 0⟩]=l.map fun n=>(ρ.vv.getD n V1.nil).v:=by
 unfold aF aK;simp only [aqP,List.map_nil,List.flatMap_cons,List.flatMap_nil,List.append_nil,bL.cells,fN,List.range_one,aqP,List.map_nil];rw [List.flatMap_def];apply List.ext_getElem?;intro k;have: ∀(g:Nat→Value) (n:Nat),(List.map (fun i=>[g i]) (List.range n)).flatten=(List.range n).map g:=by
  intro g n
  induction n with
  | zero=>rfl
  | succ n ih=>rw [List.range_succ,List.map_append,List.map_append,List.flatten_append,ih];simp
 rw [this fun i=>((l[i*1+0]?).elim V1.nil fun n=>ρ.vv.getD n V1.nil).v];rw [List.getElem?_map,List.getElem?_map];by_cases hk:k<l.length
 ·rw [List.getElem?_range hk,List.getElem?_eq_getElem hk];simp [List.getElem?_eq_getElem hk]
 ·rw [aq3 (by simp;omega),aq3 (by omega)];rfl
theorem xB(hT:bx P T=true){ts:TypeId}{tt:TI}(fQ:aP T ts=some tt){x y:SV}{res:gY}(h:vn T hp nv tt.k x y=some res)
  (cN:Reads hp ρ w S res.rd) (ty:TypeId):
  Did P ρ w hp S nb nv ((do pure (.value (←aqJ #[ts,ts] ty #[x.val ρ,y.val ρ])):Sem Next).run P w) res:=by
 unfold vn at h;split at h
 case h_2=>cases h
 rename_i t b ix s n m hk;split at h
 case h_2=>cases h
 rename_i te j l j' l' iJ hx hy;split at h
 case isFalse=>cases h
 rename_i hc;obtain⟨rfl,JU,fg,Ao,DS⟩:=hc;cases h;simp only at cN;obtain⟨rfl,pg⟩:=aA hT fQ;obtain⟨rfl,cO⟩:=aA hT iJ;have df:=pg.kind;rw [hk]at df;have hu:=bH df;obtain⟨i,hi,fy,uT,z,hz,hcz⟩:=cO.info;have pK:z.cells.size=te.size:=by rw [←Array.length_toList,←hcz ρ,bh,cO.AB]
 obtain⟨xb,xc,Gs,hxr⟩:=r8 hx (fun k hk=>cN k (by simp at hk;simp [hk]));obtain⟨yb,yc,hyv,hyr⟩:=r8 hy (fun k hk=>cN k (by simp at hk;simp [hk]));have hxc:xc=l.length:=by
  have:(SV.sl b ix s n n).val ρ= .slice (some ⟨ρ.bv.getD b 0,(ix.den ρ 0).toNat*s,none⟩) (n.den ρ 0).toNat (n.den ρ 0).toNat:=rfl;rw [this]at Gs;simp only [Value.slice.injEq]at Gs;omega
 subst hxc;obtain⟨v',w',r1,r2,r3,r5⟩:=pL (P:=P) (w:=w) tt.t ty te.t i z te.size te.bytes hu hi hz fy uT pK ⟨xb,0,none⟩ l.length _ (by rw [List.length_map,JU,Nat.mul_one]) hxr
  ⟨yb,0,none⟩ l'.length yc (by omega) _ (by rw [List.length_map,JU,Nat.mul_one]) hyr (by unfold maxLen;omega) Ao
 refine⟨te.t,1,_,_,v',w',fun k=>v'.ownBlock=some k,rfl,rfl,by rw [Gs,hyv];simp only [aqA,r1,aqu,aqH],?_,⟨r3.os,r3.tape,r3.output,r3.size⟩,fun k hk=>r3.block k hk (by simp),⟨?_,fun k=>⟨fun h=>⟨h,.inl rfl⟩,fun h=>h.1⟩⟩,?_⟩
 ·rcases r2.2 with⟨rfl,_⟩ | ⟨g,o,cap,cur,rfl,_⟩<;>rfl
 ·simp only [if_true];have e:((E.lit ((l.length+l'.length:Nat):Int)).den ρ 0).toNat=(l++l').length:=by
   show ag ((l.length+l'.length:Nat):Int)=_;rw [aqD,aql]
  rw [e,Re,List.map_append,aql,←JU];exact r2
 ·intro k hk;rw [hk]at r5;cases r5;exact⟨Nat.le_refl _,iS r2 hk⟩
end
end Go.RX
