/- Executor. -/
import Derived.Test.YtmgbbbmdbpbeeaaGreatRxOe
open Go.Builtin renaming append_ → afh, zeroCells → afm
open Go.Result renaming andThen_ok → ae3
open Go.Sem renaming run_bind → afa, run_pure → afs
open Int renaming toNat → ag, toNat_natCast → afe
open List renaming eq_nil_of_length_eq_zero → aff, getElem?_eq_getElem → afA, getElem?_eq_none → afz, map_cons → afj, mem_cons_of_mem → ae4
open Option renaming map_eq_some_iff → aeY
open Option.some renaming injEq → aeX
namespace Go.RX
variable {P:Program} {w:World}
theorem zm(t ti ty e:TypeId)(kt:IntKind)(i:TypeInfo)(z:Value)(ht:P.underlying t=some (.slice e))(cQ:P.underlying ti=some (.int kt))(hi:P.info? e=some i)(hz:i.zero=some z)
  (k:IntKind) (m:Nat) (g o:Nat) (n cap:Nat) (fx:0<i.size) (hm:0<m) (hw:IntKind.i64.wrap (m:Int)=m) (hb: ¬(2^48:Int)<(m:Int)*i.bytes) (pq:n+m≤cap) {w':World}
  (uE:(storeCells ⟨g,o+n*i.size,none⟩ (afm z.cells m).toList).run P w= .ok () w'):
  (afh #[t,ti] ty #[.slice (some ⟨g,o,none⟩) n cap,.int k (m:Int)]).run P w= .ok (.slice (some ⟨g,o,none⟩) (n+m) cap) w':=by
 have h0: ¬(m:Int)<0:=by omega
 have eZ: ¬m*i.size=0:=Nat.ne_of_gt (Nat.mul_pos hm fx);have VA: ¬(281474976710656:Int)<(m:Int)*i.bytes:=hb;simp [afh,run_underlying ht,run_underlying cQ,sizeOf,typeInfo,zeroValue,hi,hz,asInt,asIntOf,hw,h0,VA,pq,eZ,eI,uE]
theorem xO(t ti ty e:TypeId)(kt:IntKind)(i:TypeInfo)(z:Value)(ht:P.underlying t=some (.slice e))(cQ:P.underlying ti=some (.int kt))(hi:P.info? e=some i)(hz:i.zero=some z)
  (k:IntKind) (m:Nat) (base:Option Addr) (n cap:Nat) (VB:List Value) (hold:(Builtin.firstCells i.size n (.slice base n cap)).run P w.drew= .ok VB.toArray w.drew)
  (fx:0<i.size) (hw:IntKind.i64.wrap (m:Int)=m) (hb: ¬(2^48:Int)<(m:Int)*i.bytes) (hg:cap<n+m) (hm:0<m) (OT:((n+m:Nat):Int)≤9223372036854775807) (tP:Builtin.nextslicecap (n+m) cap*i.bytes≤281474976710656):
  (afh #[t,ti] ty #[.slice base n cap,.int k (m:Int)]).run P w=
   .ok (.slice (some ⟨w.heap.size,0,none⟩) (n+m) (grownCap w (n+m) cap e))
    (w.drew.alloc (.cells (VB.toArray++afm z.cells m++afm z.cells (grownCap w (n+m) cap e - (n+m))) e)):=by
 have h0: ¬(m:Int)<0:=by omega
 have eZ: ¬m*i.size=0:=Nat.ne_of_gt (Nat.mul_pos hm fx);have VA: ¬(281474976710656:Int)<(m:Int)*i.bytes:=hb;have hn: ¬(n+m≤cap):=by omega
 have YC: ¬(9223372036854775807<((n:Int)+(m:Int))):=by omega
 have YD: ¬(281474976710656<Builtin.nextslicecap (n+m) cap*i.bytes):=by omega
 simp [afh,run_underlying ht,run_underlying cQ,sizeOf,typeInfo,zeroValue,hi,hz,asInt,asIntOf,hw,h0,VA,hn,YC,YD,eZ,Question.forced,hold,newRow,grownCap]
theorem oA(t ti ty e:TypeId)(kt:IntKind)(i:TypeInfo)(z:Value)(size bytes:Nat)(ht:P.underlying t=some (.slice e))(cQ:P.underlying ti=some (.int kt))(hi:P.info? e=some i)(hz:i.zero=some z)
  (iW:i.size=size) (tA:i.bytes=bytes) (oM:z.cells.size=size) (fx:0<size)
  (v:Value) (n:Nat) (xs:List Value) (cM:w.g_ e size v n xs)
  (k:IntKind) (m:Nat) (h1: ∀u∈(afm z.cells m).toList,u.oneCell'=true) (OT:n+m≤140737488355328) (nS:(n+m)*bytes≤140737488355328):
  ∃v' w',(afh #[t,ti] ty #[v,.int k (m:Int)]).run P w= .ok v' w'∧w'.g_ e size v' (n+m) (xs++(afm z.cells m).toList)∧w.grownBy w' v.ownBlock∧
   (v'.ownBlock=v.ownBlock∨v'.ownBlock=some w.heap.size):=by
 subst iW;subst tA;have hw:IntKind.i64.wrap (m:Int)=m:=tJ .i64 _ (by show(-9223372036854775808:Int)≤_;omega) (by show _≤(9223372036854775807:Int);omega);have hmb:m*i.bytes≤140737488355328:=by
  rw [Nat.add_mul]at nS;omega
 have hb: ¬(2^48:Int)<(m:Int)*i.bytes:=by
  rw [←Int.natCast_mul];have:(2^48:Int)=281474976710656:=by decide
  omega
 have rS:(afm z.cells m).toList.length=m*i.size:=by rw [Array.length_toList,size_zeroCells,oM]
 have hlen:(xs++(afm z.cells m).toList).length=(n+m)*i.size:=by rw [List.length_append,cM.1,rS,Nat.add_mul]
 by_cases JU:m=0
 ·subst JU;have Vs:(afm z.cells 0).toList=[]:=aff (by simpa using rS);have RM:IntKind.i64.wrap 0=0:=hw;refine⟨v,w,?_,by rw [Vs];simpa using cM,⟨rfl,rfl,rfl,Nat.le_refl _,fun _ _ _=>rfl⟩,.inl rfl⟩;rcases cM.2 with⟨rfl,rfl⟩ | ⟨g,o,cap,cur,rfl,_,CI,_⟩
  ·simp [afh,run_underlying ht,run_underlying cQ,sizeOf,typeInfo,hi,asInt,asIntOf,RM]
  ·simp [afh,run_underlying ht,run_underlying cQ,sizeOf,typeInfo,hi,asInt,asIntOf,RM,CI,storeCells]
 have hm:0<m:=by omega
 have grow: ∀(base:Option Addr) (cap:Nat),(Builtin.firstCells i.size n (.slice base n cap)).run P w.drew= .ok xs.toArray w.drew→cap<n+m→v= .slice base n cap→
   ∃v' w',(afh #[t,ti] ty #[v,.int k (m:Int)]).run P w= .ok v' w'∧w'.g_ e i.size v' (n+m) (xs++(afm z.cells m).toList)∧w.grownBy w' v.ownBlock∧
   (v'.ownBlock=v.ownBlock∨v'.ownBlock=some w.heap.size):=by
  intro base cap hold hg hv;subst hv;have iH:=grownCap_ge w (n+m) cap e;have Ml:grownCap w (n+m) cap e≤maxLen:=grownCap_le_maxLen w (n+m) cap e (by unfold maxLen;omega);have hr:=xO (P:=P) (w:=w) t ti ty e kt i z ht cQ hi hz k m base n cap xs hold fx hw hb hg hm (by omega) (growslice_fits (by omega) nS);refine⟨_,_,hr,⟨hlen,.inr ⟨w.heap.size,0,_,_,rfl,⟨e,heap_alloc_new w.drew _⟩,iH,Ml,?_,?_⟩⟩,⟨rfl,rfl,rfl,by simp,fun k hk _=>heap_alloc_old w.drew _ hk⟩,Or.inr rfl⟩
  ·simp only [Array.size_append,List.size_toArray,size_zeroCells,oM,cM.1,←Nat.add_mul,Nat.zero_add];intro _;apply Nat.le_of_eq;congr 1;omega
  ·simp only [Array.toList_append,List.drop_zero];rw [←hlen];exact List.take_left
 rcases cM.2 with⟨rfl,rfl⟩ | ⟨g,o,cap,cur,rfl,⟨t',hg⟩,CI,OP,mj,CJ⟩
 ·have hx:xs=[]:=aff (by simpa using cM.1);subst hx;exact grow none 0 (by simp [Builtin.firstCells]) (by omega) rfl
 ·by_cases pq:n+m≤cap
  ·have mj:=mj (by omega);have hmul:(n+m)*i.size≤cap*i.size:=Nat.mul_le_mul_right _ pq;rw [Nat.add_mul]at hmul;have tP:o+n*i.size+(afm z.cells m).toList.length≤cur.size:=by omega
   have uE:=run_storeCells_at (P:=P) g (o+n*i.size) t' (afm z.cells m).toList 0 cur w hg (by simpa using tP) h1;simp only [Nat.add_zero]at uE;have hr:=zm (P:=P) (w:=w) t ti ty e kt i z ht cQ hi hz k m g o n cap fx hm hw hb pq uE;refine⟨_,_,hr,⟨hlen,.inr ⟨g,o,cap,_,rfl,⟨t',setRow_heap w g cur _ t' _ hg⟩,pq,OP,?_,?_⟩⟩,⟨rfl,rfl,rfl,by simp,fun k _ hk=>setRow_other w g k _ (fun e=>hk (by simp [Value.ownBlock,e]))⟩,Or.inl rfl⟩
   ·simp only [List.size_toArray,List.length_append,List.length_take,List.length_drop,Array.length_toList]at tP ⊢;intro _;omega
   ·have:=pe cur.toList (afm z.cells m).toList o (n*i.size) ((n+m)*i.size) (by rw [Nat.add_mul];omega) (by rw [Nat.add_mul];simp only [Array.length_toList]at tP ⊢;omega);simp only;rw [this,List.take_take,Nat.min_eq_left (by rw [Nat.add_mul];omega),CJ,rS,←Nat.add_mul,List.drop_eq_nil_of_le (by rw [List.length_take];exact Nat.min_le_left _ _),List.append_nil]
  ·exact grow (some ⟨g,o,none⟩) cap (run_firstCells_some (P:=P) w.drew i.size n ⟨g,o,none⟩ n cap xs cM.1 (by simpa using iX cM)) (by omega) rfl
section
variable {ρ:Env} {hp:List Ck} {S:Nat→Nat→Prop} {nb nv:Nat} {T:List TI}
theorem zo(hT:bG P T=true){ts t':TypeId}{tt ti:TI}(fq:a_ T ts=some tt)(VD:a_ T t'=some ti){kt:IntKind}(XJ:ti.k= .int kt){x:SV}{m:E}{res:hZ}(h:Bu T hp nv tt.k x m=some res)
  (cV:Reads hp ρ w S res.rd) (bY: ∀b∈res.vcs,b.prop ρ) (k:IntKind) (ty:TypeId):
  Did P ρ w hp S nb nv ((do pure (.value (←afh #[ts,t'] ty #[x.val ρ,.int k (m.den ρ 0)])):Sem Next).run P w) res:=by
 unfold Bu at h;split at h
 ·rename_i t v hk;split at h
  ·rename_i te j md t2 s n aF gX hj;split at h
   ·rename_i zc zi;split at h
    ·rename_i aZ eB;split at h
     ·rename_i gY;obtain⟨rfl,hs,hw⟩:=gY;cases h;simp only at bY cV;obtain⟨rfl,nW⟩:=aH hT fq;obtain⟨rfl,cQ⟩:=aH hT gX;obtain⟨rfl,YE⟩:=aH hT VD;have cX:=nW.kind;rw [hk]at cX;have hu:=bO cX;have VE:=YE.kind;rw [XJ]at VE;have YF:=jV VE;obtain⟨i,hi,fx,tA,z,hz,hc⟩:=cQ.info;have oM:z.cells.size=te.size:=by rw [←Array.length_toList,←hc ρ,bB,cQ.ze]
      obtain⟨v1,v3⟩:=bD bY;obtain⟨v1,v2⟩:=bD v1;have v1:=bq v1;have v2:=bq v2;simp only [E.den]at v1 v2;obtain⟨z1,z2,z3⟩:=fg (ρ:=ρ) zi;have xP:(dB n m).den ρ 0=n.den ρ 0+m.den ρ 0:=bM ..;obtain⟨b1,b2⟩:=gC (n:=dB n m) (bytes:=te.bytes) (v3 _ (by simp)) (by rw [xP];omega);have lq:((dB n m).den ρ 0).toNat=(n.den ρ 0).toNat+(m.den ρ 0).toNat:=by rw [xP];omega
      rw [lq]at b1 b2;obtain⟨hj0,YG⟩:=cU hj;have YG:v=md:=by simpa [Ck.lO] using YG
      subst YG;obtain⟨cM,kp⟩:=cV j (by simp) _ hj0;simp only [if_true]at cM;have OU:m.den ρ 0=(((m.den ρ 0).toNat:Nat):Int):=by omega
      have S8:(afm z.cells (m.den ρ 0).toNat).toList=aM ρ (m.den ρ 0).toNat zc:=by
       rw [sB zi,hc ρ];exact sr _ _ (by omega)
      obtain⟨v',w',r1,r2,r3,r5⟩:=oA (P:=P) (w:=w) tt.t ti.t ty te.t kt i z te.size te.bytes hu YF hi hz fx tA oM z3 _ _ _ (by rw [←hs];exact cM) k (m.den ρ 0).toNat (by rw [S8];exact nX _ _) b2 b1;have ft:aM ρ ((dB n m).den ρ 0).toNat aZ=aM ρ (n.den ρ 0).toNat aF++aM ρ (m.den ρ 0).toNat zc:=by
       rw [lq];obtain⟨c1,c2,c3⟩:=fG (ρ:=ρ) v1 v2 eB;rw [ct,fP];congr 1
       ·exact cH fun k hk=>by rw [c3,if_neg (by omega)]
       ·exact cH fun k hk=>by rw [c3,if_pos (by omega)];congr 1;omega
      refine⟨te.t,s,_,aZ,v',w',fun k=>v'.ownBlock=some k,rfl,rfl,by rw [OU];simp only [SV.val,afa,r1,ae3,afs],?_,⟨_,hj0,rfl⟩,⟨r3.os,r3.tape,r3.output,r3.size⟩,?_,⟨?_,fun k=>⟨fun h=>⟨h,.inl rfl⟩,fun h=>h.1⟩⟩,?_⟩
      ·rcases r2.2 with⟨rfl,_⟩ | ⟨g,o,cap,cur,rfl,_⟩<;>rfl
      ·intro k hk hn;exact r3.block k hk fun he=>hn ((kp k).2 ⟨he.symm,.inl rfl⟩)
      ·simp only [if_true];rw [ft,lq,hs,←S8];exact r2
      ·intro k hk;rcases r5 with h | h
       ·left;rw [kp k,←h];exact⟨hk,.inl rfl⟩
       ·right;rw [hk]at h;cases h;exact⟨Nat.le_refl _,gJ r2 hk⟩
     ·cases h
    ·cases h
   ·cases h
  ·cases h
 ·rename_i t hk;split at h
  ·rename_i te gX;split at h
   ·rename_i zc zi;split at h
    ·rename_i hw;cases h;simp only at bY;obtain⟨rfl,nW⟩:=aH hT fq;obtain⟨rfl,cQ⟩:=aH hT gX;obtain⟨rfl,YE⟩:=aH hT VD;have cX:=nW.kind;rw [hk]at cX;have hu:=bO cX;have VE:=YE.kind;rw [XJ]at VE;have YF:=jV VE;obtain⟨i,hi,fx,tA,z,hz,hc⟩:=cQ.info;have oM:z.cells.size=te.size:=by rw [←Array.length_toList,←hc ρ,bB,cQ.ze]
     obtain⟨v2,v3⟩:=bD bY;have v2:=bq v2;simp only [E.den]at v2;obtain⟨z1,z2,z3⟩:=fg (ρ:=ρ) zi;obtain⟨b1,b2⟩:=gC (n:=m) (bytes:=te.bytes) (v3 _ (by simp)) v2;have OU:m.den ρ 0=(((m.den ρ 0).toNat:Nat):Int):=by omega
     have S8:(afm z.cells (m.den ρ 0).toNat).toList=aM ρ (m.den ρ 0).toNat zc:=by
      rw [sB zi,hc ρ];exact sr _ _ (by omega)
     obtain⟨v',w',r1,r2,r3,r5⟩:=oA (P:=P) (w:=w) tt.t ti.t ty te.t kt i z te.size te.bytes hu YF hi hz fx tA oM z3 (.slice none 0 0) 0 [] (js w te.t te.size) k (m.den ρ 0).toNat (by rw [S8];exact nX _ _) (by rw [Nat.zero_add];exact b2) (by rw [Nat.zero_add];exact b1);refine⟨te.t,te.size,_,zc,v',w',fun k=>v'.ownBlock=some k,rfl,rfl,by rw [OU];simp only [SV.val,afa,r1,ae3,afs],?_,⟨r3.os,r3.tape,r3.output,r3.size⟩,fun k hk=>r3.block k hk (by simp [Value.ownBlock]),⟨?_,fun k=>⟨fun h=>⟨h,.inl rfl⟩,fun h=>h.1⟩⟩,?_⟩
     ·rcases r2.2 with⟨rfl,_⟩ | ⟨g,o,cap,cur,rfl,_⟩<;>rfl
     ·simp only [if_true];rw [←S8];simpa using r2
     ·intro k hk;rcases r5 with h | h
      ·rw [hk]at h;cases h
      ·rw [hk]at h;cases h;exact⟨Nat.le_refl _,gJ r2 hk⟩
    ·cases h
   ·cases h
  ·cases h
 ·cases h
end
variable {P:Program} {w:World}
section
variable {ρ:Env} {hp:List Ck} {S:Nat→Nat→Prop} {nb nv:Nat} {T:List TI}
theorem sC{b t:Nat}{cs:List Value}{S':Nat→Prop}(h:(ax b true cs).p w S')(hl:cs.length≤maxLen):w.g_ t 1 (.slice (some ⟨b,0,none⟩) cs.length cs.length) cs.length cs:=by
 obtain⟨_,ty,fz,hb,hf⟩:=h;have:=hf rfl;subst this;refine⟨by omega,.inr ⟨b,0,cs.length,_,rfl,⟨ty,hb⟩,Nat.le_refl _,hl,fun _=>by simp,by simp⟩⟩
theorem vT(hT:bG P T=true){ts:TypeId}{tt:TI}(fq:a_ T ts=some tt){x y:SV}{res:hZ}(h:tW T hp nv tt.k x y=some res)
  (cV:Reads hp ρ w S res.rd) (bY: ∀b∈res.vcs,b.prop ρ) (ty:TypeId):
  Did P ρ w hp S nb nv ((do pure (.value (←afh #[ts,ts] ty #[x.val ρ,y.val ρ])):Sem Next).run P w) res:=by
 unfold tW at h;split at h
 case h_2=>cases h
 rename_i t b ix s n m hk;split at h
 case h_2=>cases h
 rename_i te j b' cs q gX PZ YH hn;split at h
 case h_2=>cases h
 rename_i ki kl a sc JZ iJ;split at h
 case isFalse=>cases h
 rename_i hc;obtain⟨rfl,rfl,J0,hq,Mk⟩:=hc;rw [aeY]at h;obtain⟨aZ,eB,rfl⟩:=h;simp only at bY cV;obtain⟨rfl,nW⟩:=aH hT fq;obtain⟨rfl,cQ⟩:=aH hT gX;have cX:=nW.kind;rw [hk]at cX;have hu:=bO cX;obtain⟨i,hi,fx,tA,z,hz,YI⟩:=cQ.info;have oM:z.cells.size=te.size:=by rw [←Array.length_toList,←YI ρ,bB,cQ.ze]
 obtain⟨v1,v3⟩:=bD bY;obtain⟨v1,v2⟩:=bD v1;have v2:=bq v2;simp only [E.den]at v2;have VF:n.den ρ 0=(q:Int):=cy (ρ:=ρ) hn;have VG:ix.den ρ 0=((0:Nat):Int):=cy (ρ:=ρ) YH;obtain⟨_,s2,s3⟩:=fH (te:=te) iJ (fun j hj=>cV j (ae4 _ hj)) v1 v2;have xP:(dB (.lit (q:Int)) sc.n).den ρ 0=(q:Int)+sc.n.den ρ 0:=by rw [bM];rfl
 obtain⟨b1,b2⟩:=gC (n:=dB (.lit (q:Int)) sc.n) (bytes:=te.bytes) (v3 _ (by simp)) (by rw [xP];omega);have lq:((dB (.lit (q:Int)) sc.n).den ρ 0).toNat=q+(sc.n.den ρ 0).toNat:=by rw [xP];omega
 rw [lq]at b1 b2;obtain⟨hj,dC⟩:=cO PZ;simp only [Ck.qv,beq_iff_eq]at dC;subst dC;have hS:=cV j (by simp) _ hj;have ft:SV.aC ρ cs=al ki q (a.den ρ):=by
  have P4:=gv (ρ:=ρ) JZ;rw [Mk,List.length_replicate,nN]at P4;exact P4
 have hlen:(SV.aC ρ cs).length=q:=by rw [ft,aG]
 have Mm:(ax (ρ.bv.getD b 0) true (SV.aC ρ cs)).p w (S j):=hS;have cM:=sC (t:=te.t) Mm (by rw [hlen];unfold maxLen;omega);rw [hlen,ft]at cM;have kp: ∀k,S j k↔k=ρ.bv.getD b 0:=Mm.1;obtain⟨v',w',r1,r2,r3,r5⟩:=my (P:=P) (w:=w) tt.t ty te.t i z te.size te.bytes hu hi hz fx tA oM (by omega) _ q _ (by rw [J0];exact cM)
  _ _ _ s3 (by rw [dj,s2]) (nX _ _) (by unfold maxLen;omega) b1
 have F_:(SV.sl b ix 1 n n).val ρ= .slice (some ⟨ρ.bv.getD b 0,0,none⟩) q q:=by simp [SV.val,VF,VG]
 have Mt:aM ρ ((dB (.lit (q:Int)) sc.n).den ρ 0).toNat aZ=al ki q (a.den ρ)++aM ρ (sc.n.den ρ 0).toNat sc.aF:=by
  rw [lq];obtain⟨c1,c2,c3⟩:=fG (ρ:=ρ) (at_:= .lit (q:Int)) (by show(0:Int)≤(q:Int);omega) v2 eB;have YJ:((E.lit (q:Int)).den ρ 0).toNat=q:=by show ag (q:Int)=q;omega
  rw [YJ]at c3;rw [←eo ki q a,ct,fP];congr 1
  ·exact cH fun k hk=>by rw [c3,if_neg (by omega)]
  ·exact cH fun k hk=>by rw [c3,if_pos (by omega)];congr 1;omega
 refine⟨te.t,1,_,aZ,v',w',fun k=>v'.ownBlock=some k,rfl,rfl,by rw [F_];simp only [afa,r1,ae3,afs],?_,⟨_,hj,rfl⟩,⟨r3.os,r3.tape,r3.output,r3.size⟩,?_,⟨?_,fun k=>⟨fun h=>⟨h,.inl rfl⟩,fun h=>h.1⟩⟩,?_⟩
 ·rcases r2.2 with⟨rfl,_⟩ | ⟨g,o,cap,cur,rfl,_⟩<;>rfl
 ·intro k hk Mu;refine r3.block k hk fun he=>Mu ((kp k).2 ?_)
  simp only [Value.ownBlock,aeX]at he;exact he
 ·simp only [if_true];rw [Mt,lq,←J0];exact r2
 ·intro k hk;rcases r5 with h | h
  ·left;rw [hk]at h;simp only [Value.ownBlock,aeX]at h;exact(kp k).2 h
  ·right;rw [hk]at h;cases h;exact⟨Nat.le_refl _,gJ r2 hk⟩
theorem sD: ∀{cs:List SV} {l:List Nat},wA cs=some l→SV.aC ρ cs=l.map fun n=>(ρ.vv.getD n V1.nil).v
 | [],l,h=>by cases h;rfl
 | .vv i::r,l,h=>by
  simp only [wA,aeY]at h;obtain⟨l',h',rfl⟩:=h;simp only [SV.aC,SV.cells,sD h',afj,List.singleton_append]
theorem qI{x:SV}{j:Nat}{l:List Nat}(h:sE hp x=some (j,l))(cV:Reads hp ρ w S [j]):
  ∃b c,x.val ρ= .slice (some ⟨b,0,none⟩) l.length c∧∀(k:Nat) u,(l.map fun n=>(ρ.vv.getD n V1.nil).v)[k]? =some u→w.cell? ((⟨b,0,none⟩:Addr).add k)=some u:=by
 unfold sE at h;split at h
 case h_2=>cases h
 rename_i b i s n m;split at h
 case h_2=>cases h
 rename_i j' b' wr cs q hf hi hn;split at h
 case h_2=>cases h
 rename_i l' hl;split at h
 case isFalse=>cases h
 rename_i hq;cases h;obtain⟨hj,dC⟩:=cO hf;simp only [Ck.qv,beq_iff_eq]at dC;subst dC;have hS:(ax (ρ.bv.getD b 0) wr (SV.aC ρ cs)).p w (S j):=cV j (by simp) _ hj;obtain⟨_,ty,fz,hg,_⟩:=hS;have VF:=cy (ρ:=ρ) hn;have VG:=cy (ρ:=ρ) hi;refine⟨ρ.bv.getD b 0,(m.den ρ 0).toNat,by simp [SV.val,VF,VG,hq],fun k u hu=>?_⟩;rw [←sD hl]at hu;rw [eI];simp only [World.cell?,hg];simpa using hu
theorem P5(l:List Nat):aM ρ l.length [⟨.Ba l,1,.lit 0⟩]=l.map fun n=>(ρ.vv.getD n V1.nil).v:=by
 unfold aM aQ;simp only [afj,List.map_nil,List.flatMap_cons,List.flatMap_nil,List.append_nil,bV.cells,ic,List.range_one,afj,List.map_nil];rw [List.flatMap_def];apply List.ext_getElem?;intro k;have: ∀(g:Nat→Value) (n:Nat),(List.map (fun i=>[g i]) (List.range n)).flatten=(List.range n).map g:=by
  intro g n
  induction n with
  | zero=>rfl
  | succ n ih=>rw [List.range_succ,List.map_append,List.map_append,List.flatten_append,ih];simp
 rw [this fun i=>((l[i*1+0]?).elim V1.nil fun n=>ρ.vv.getD n V1.nil).v];rw [List.getElem?_map,List.getElem?_map];by_cases hk:k<l.length
 ·rw [List.getElem?_range hk,afA hk];simp [afA hk]
 ·rw [afz (by simp;omega),afz (by omega)];rfl
theorem vU(hT:bG P T=true){ts:TypeId}{tt:TI}(fq:a_ T ts=some tt){x y:SV}{res:hZ}(h:tX T hp nv tt.k x y=some res)
  (cV:Reads hp ρ w S res.rd) (ty:TypeId):
  Did P ρ w hp S nb nv ((do pure (.value (←afh #[ts,ts] ty #[x.val ρ,y.val ρ])):Sem Next).run P w) res:=by
 unfold tX at h;split at h
 case h_2=>cases h
 rename_i t b ix s n m hk;split at h
 case h_2=>cases h
 rename_i te j l j' l' gX hx hy;split at h
 case isFalse=>cases h
 rename_i hc;obtain⟨rfl,J0,eZ,wm,y4⟩:=hc;cases h;simp only at cV;obtain⟨rfl,nW⟩:=aH hT fq;obtain⟨rfl,cQ⟩:=aH hT gX;have cX:=nW.kind;rw [hk]at cX;have hu:=bO cX;obtain⟨i,hi,fx,tA,z,hz,YI⟩:=cQ.info;have oM:z.cells.size=te.size:=by rw [←Array.length_toList,←YI ρ,bB,cQ.ze]
 obtain⟨xb,xc,F_,YK⟩:=qI hx (fun k hk=>cV k (by simp at hk;simp [hk]));obtain⟨yb,yc,YL,YM⟩:=qI hy (fun k hk=>cV k (by simp at hk;simp [hk]));have hxc:xc=l.length:=by
  have:(SV.sl b ix s n n).val ρ= .slice (some ⟨ρ.bv.getD b 0,(ix.den ρ 0).toNat*s,none⟩) (n.den ρ 0).toNat (n.den ρ 0).toNat:=rfl;rw [this]at F_;simp only [Value.slice.injEq]at F_;omega
 subst hxc;obtain⟨v',w',r1,r2,r3,r5⟩:=oz (P:=P) (w:=w) tt.t ty te.t i z te.size te.bytes hu hi hz fx tA oM ⟨xb,0,none⟩ l.length _ (by rw [List.length_map,J0,Nat.mul_one]) YK
  ⟨yb,0,none⟩ l'.length yc (by omega) _ (by rw [List.length_map,J0,Nat.mul_one]) YM (by unfold maxLen;omega) wm
 refine⟨te.t,1,_,_,v',w',fun k=>v'.ownBlock=some k,rfl,rfl,by rw [F_,YL];simp only [afa,r1,ae3,afs],?_,⟨r3.os,r3.tape,r3.output,r3.size⟩,fun k hk=>r3.block k hk (by simp),⟨?_,fun k=>⟨fun h=>⟨h,.inl rfl⟩,fun h=>h.1⟩⟩,?_⟩
 ·rcases r2.2 with⟨rfl,_⟩ | ⟨g,o,cap,cur,rfl,_⟩<;>rfl
 ·simp only [if_true];have e:((E.lit ((l.length+l'.length:Nat):Int)).den ρ 0).toNat=(l++l').length:=by
   show ag ((l.length+l'.length:Nat):Int)=_;rw [afe,List.length_append]
  rw [e,P5,List.map_append,List.length_append,←J0];exact r2
 ·intro k hk;rw [hk]at r5;cases r5;exact⟨Nat.le_refl _,gJ r2 hk⟩
end
end Go.RX
