/- Executor. -/
import Derived.Test.YtphemenngjkfbaaRxOe
open Go.Builtin renaming append_ → ad2, zeroCells → ad8
open Go.Result renaming andThen_ok → adR
open Go.Sem renaming run_bind → adV, run_pure → aeb
open Int renaming toNat → ag
open List renaming append_nil → adW, eq_nil_of_length_eq_zero → adZ, getElem?_eq_getElem → ad9, getElem?_eq_none → aeh, map_cons → ad1, mem_cons_of_mem → adP, range → aec
open Option renaming map_eq_some_iff → adM
open Option.some renaming injEq → adK
namespace Go.RX
variable {P:Program} {w:World}
theorem Aj(t ti ty e:TypeId)(kt:IntKind)(i:TypeInfo)(z:Value)(ht:P.underlying t=some (.slice e))(cN:P.underlying ti=some (.int kt))(hi:P.info? e=some i)(hz:i.zero=some z)
  (k:IntKind) (m:Nat) (g o:Nat) (n cap:Nat) (eV:0<i.size) (hm:0<m) (hw:IntKind.i64.wrap (m:Int)=m) (hb: ¬(2^48:Int)<(m:Int)*i.bytes) (tq:n+m≤cap) {w':World}
  (ow:(storeCells ⟨g,o+n*i.size,none⟩ (ad8 z.cells m).toList).run P w= .ok () w'):
  (ad2 #[t,ti] ty #[.slice (some ⟨g,o,none⟩) n cap,.int k (m:Int)]).run P w= .ok (.slice (some ⟨g,o,none⟩) (n+m) cap) w':=by
 have h0: ¬(m:Int)<0:=by omega
 have fc: ¬m*i.size=0:=Nat.ne_of_gt (Nat.mul_pos hm eV);have PI: ¬(281474976710656:Int)<(m:Int)*i.bytes:=hb;simp [ad2,run_underlying ht,run_underlying cN,sizeOf,typeInfo,zeroValue,hi,hz,asInt,asIntOf,hw,h0,PI,tq,fc,eD,ow]
theorem yy(t ti ty e:TypeId)(kt:IntKind)(i:TypeInfo)(z:Value)(ht:P.underlying t=some (.slice e))(cN:P.underlying ti=some (.int kt))(hi:P.info? e=some i)(hz:i.zero=some z)
  (k:IntKind) (m:Nat) (base:Option Addr) (n cap:Nat) (UY:List Value) (hold:(Builtin.firstCells i.size n (.slice base n cap)).run P w.drew= .ok UY.toArray w.drew)
  (eV:0<i.size) (hw:IntKind.i64.wrap (m:Int)=m) (hb: ¬(2^48:Int)<(m:Int)*i.bytes) (hg:cap<n+m) (hm:0<m) (O8:((n+m:Nat):Int)≤9223372036854775807) (sb:Builtin.nextslicecap (n+m) cap*i.bytes≤281474976710656):
  (ad2 #[t,ti] ty #[.slice base n cap,.int k (m:Int)]).run P w=
   .ok (.slice (some ⟨w.heap.size,0,none⟩) (n+m) (grownCap w (n+m) cap e))
    (w.drew.alloc (.cells (UY.toArray++ad8 z.cells m++ad8 z.cells (grownCap w (n+m) cap e - (n+m))) e)):=by
 have h0: ¬(m:Int)<0:=by omega
 have fc: ¬m*i.size=0:=Nat.ne_of_gt (Nat.mul_pos hm eV);have PI: ¬(281474976710656:Int)<(m:Int)*i.bytes:=hb;have hn: ¬(n+m≤cap):=by omega
 have Yj: ¬(9223372036854775807<((n:Int)+(m:Int))):=by omega
 have Yk: ¬(281474976710656<Builtin.nextslicecap (n+m) cap*i.bytes):=by omega
 simp [ad2,run_underlying ht,run_underlying cN,sizeOf,typeInfo,zeroValue,hi,hz,asInt,asIntOf,hw,h0,PI,hn,Yj,Yk,fc,Question.forced,hold,newRow,grownCap]
theorem o_(t ti ty e:TypeId)(kt:IntKind)(i:TypeInfo)(z:Value)(size bytes:Nat)(ht:P.underlying t=some (.slice e))(cN:P.underlying ti=some (.int kt))(hi:P.info? e=some i)(hz:i.zero=some z)
  (iZ:i.size=size) (uu:i.bytes=bytes) (pz:z.cells.size=size) (eV:0<size)
  (v:Value) (n:Nat) (xs:List Value) (cE:w.hY e size v n xs)
  (k:IntKind) (m:Nat) (h1: ∀u∈(ad8 z.cells m).toList,u.oneCell'=true) (O8:n+m≤140737488355328) (oD:(n+m)*bytes≤140737488355328):
  ∃v' w',(ad2 #[t,ti] ty #[v,.int k (m:Int)]).run P w= .ok v' w'∧w'.hY e size v' (n+m) (xs++(ad8 z.cells m).toList)∧w.grownBy w' v.ownBlock∧
   (v'.ownBlock=v.ownBlock∨v'.ownBlock=some w.heap.size):=by
 subst iZ;subst uu;have hw:IntKind.i64.wrap (m:Int)=m:=AP .i64 _ (by show(-9223372036854775808:Int)≤_;omega) (by show _≤(9223372036854775807:Int);omega);have hmb:m*i.bytes≤140737488355328:=by
  rw [Nat.add_mul]at oD;omega
 have hb: ¬(2^48:Int)<(m:Int)*i.bytes:=by
  rw [←Int.natCast_mul];have:(2^48:Int)=281474976710656:=by decide
  omega
 have sX:(ad8 z.cells m).toList.length=m*i.size:=by rw [Array.length_toList,size_zeroCells,pz]
 have hlen:(xs++(ad8 z.cells m).toList).length=(n+m)*i.size:=by rw [List.length_append,cE.1,sX,Nat.add_mul]
 by_cases JM:m=0
 ·subst JM;have UL:(ad8 z.cells 0).toList=[]:=adZ (by simpa using sX);have Rd:IntKind.i64.wrap 0=0:=hw;refine⟨v,w,?_,by rw [UL];simpa using cE,⟨rfl,rfl,rfl,Nat.le_refl _,fun _ _ _=>rfl⟩,.inl rfl⟩;rcases cE.2 with⟨rfl,rfl⟩ | ⟨g,o,cap,cur,rfl,_,Dv,_⟩
  ·simp [ad2,run_underlying ht,run_underlying cN,sizeOf,typeInfo,hi,asInt,asIntOf,Rd]
  ·simp [ad2,run_underlying ht,run_underlying cN,sizeOf,typeInfo,hi,asInt,asIntOf,Rd,Dv,storeCells]
 have hm:0<m:=by omega
 have grow: ∀(base:Option Addr) (cap:Nat),(Builtin.firstCells i.size n (.slice base n cap)).run P w.drew= .ok xs.toArray w.drew→cap<n+m→v= .slice base n cap→
   ∃v' w',(ad2 #[t,ti] ty #[v,.int k (m:Int)]).run P w= .ok v' w'∧w'.hY e i.size v' (n+m) (xs++(ad8 z.cells m).toList)∧w.grownBy w' v.ownBlock∧
   (v'.ownBlock=v.ownBlock∨v'.ownBlock=some w.heap.size):=by
  intro base cap hold hg hv;subst hv;have wG:=grownCap_ge w (n+m) cap e;have Mf:grownCap w (n+m) cap e≤maxLen:=grownCap_le_maxLen w (n+m) cap e (by unfold maxLen;omega);have hr:=yy (P:=P) (w:=w) t ti ty e kt i z ht cN hi hz k m base n cap xs hold eV hw hb hg hm (by omega) (growslice_fits (by omega) oD);refine⟨_,_,hr,⟨hlen,.inr ⟨w.heap.size,0,_,_,rfl,⟨e,_,heap_alloc_new w.drew _,.zero _⟩,wG,Mf,?_,?_⟩⟩,⟨rfl,rfl,rfl,by simp,fun k hk _=>heap_alloc_old w.drew _ hk⟩,Or.inr rfl⟩
  ·simp only [Array.size_append,List.size_toArray,size_zeroCells,pz,cE.1,←Nat.add_mul,Nat.zero_add];intro _;apply Nat.le_of_eq;congr 1;omega
  ·simp only [Array.toList_append,List.drop_zero];rw [←hlen];exact List.take_left
 rcases cE.2 with⟨rfl,rfl⟩ | ⟨g,o,cap,cur,rfl,⟨t',fz,hg,Gj⟩,Dv,Pn,m_,zZ⟩
 ·have hx:xs=[]:=adZ (by simpa using cE.1);subst hx;exact grow none 0 (by simp [Builtin.firstCells]) (by omega) rfl
 ·by_cases tq:n+m≤cap
  ·have m_:=m_ (by omega);have hmul:(n+m)*i.size≤cap*i.size:=Nat.mul_le_mul_right _ tq;rw [Nat.add_mul]at hmul;have sb:o+n*i.size+(ad8 z.cells m).toList.length≤cur.size:=by omega
   have ow:=eG (P:=P) g (o+n*i.size) t' fz (ad8 z.cells m).toList 0 cur w hg Gj (by simpa using sb) h1;simp only [Nat.add_zero]at ow;have hr:=Aj (P:=P) (w:=w) t ti ty e kt i z ht cN hi hz k m g o n cap eV hm hw hb tq ow;refine⟨_,_,hr,⟨hlen,.inr ⟨g,o,cap,_,rfl,⟨t',fz,setRow_heap w g cur _ t' _ hg,by refine Eq.mp (congrArg (pH · fz) ?_) Gj;simp only [List.size_toArray,List.length_append,List.length_take,List.length_drop,Array.length_toList]at sb ⊢;omega⟩,tq,Pn,?_,?_⟩⟩,⟨rfl,rfl,rfl,by simp,fun k _ hk=>setRow_other w g k _ (fun e=>hk (by simp [Value.ownBlock,e]))⟩,Or.inl rfl⟩
   ·simp only [List.size_toArray,List.length_append,List.length_take,List.length_drop,Array.length_toList]at sb ⊢;intro _;omega
   ·have:=pP cur.toList (ad8 z.cells m).toList o (n*i.size) ((n+m)*i.size) (by rw [Nat.add_mul];omega) (by rw [Nat.add_mul];simp only [Array.length_toList]at sb ⊢;omega);simp only;rw [this,List.take_take,Nat.min_eq_left (by rw [Nat.add_mul];omega),zZ,sX,←Nat.add_mul,List.drop_eq_nil_of_le (by rw [List.length_take];exact Nat.min_le_left _ _),adW]
  ·exact grow (some ⟨g,o,none⟩) cap (run_firstCells_some (P:=P) w.drew i.size n ⟨g,o,none⟩ n cap xs cE.1 (by simpa using i_ cE)) (by omega) rfl
section
variable {ρ:Env} {hp:List Ck} {S:Nat→Nat→Prop} {nb nv:Nat} {T:List TI}
theorem Ak(hT:bw P T=true){ts t':TypeId}{tt ti:TI}(fk:aS T ts=some tt)(UZ:aS T t'=some ti){kt:IntKind}(Xi:ti.k= .int kt){x:SV}{m:E}{res:gU}(h:BT T hp nv tt.k x m=some res)
  (cU:Reads hp ρ w S res.rd) (cb: ∀b∈res.vcs,b.prop ρ) (k:IntKind) (ty:TypeId):
  sV P ρ w hp S nb nv ((do pure (.value (←ad2 #[ts,t'] ty #[x.val ρ,.int k (m.den ρ 0)])):Sem Next).run P w) res:=by
 unfold BT at h;split at h
 ·rename_i t v hk;split at h
  ·rename_i te j md t2 s n aA gK hj;split at h
   ·rename_i zc Af;split at h
    ·rename_i aR ew;split at h
     ·rename_i hG;obtain⟨rfl,hs,hw⟩:=hG;cases h;simp only at cb cU;obtain⟨rfl,oH⟩:=ay hT fk;obtain⟨rfl,cN⟩:=ay hT gK;obtain⟨rfl,Yl⟩:=ay hT UZ;have cT:=oH.kind;rw [hk]at cT;have hu:=bL cT;have U0:=Yl.kind;rw [Xi]at U0;have Ym:=jf U0;obtain⟨i,hi,eV,uu,z,hz,hc⟩:=cN.info;have pz:z.cells.size=te.size:=by rw [←Array.length_toList,←hc ρ,bp,cN.Aa]
      obtain⟨v1,v3⟩:=bu cb;obtain⟨v1,v2⟩:=bu v1;have v1:=bc v1;have v2:=bc v2;simp only [E.den]at v1 v2;obtain⟨z1,z2,z3⟩:=eX (ρ:=ρ) Af;have yz:(dC n m).den ρ 0=n.den ρ 0+m.den ρ 0:=bH ..;obtain⟨b1,b2⟩:=gC (n:=dC n m) (bytes:=te.bytes) (v3 _ (by simp)) (by rw [yz];omega);have lM:((dC n m).den ρ 0).toNat=(n.den ρ 0).toNat+(m.den ρ 0).toNat:=by rw [yz];omega
      rw [lM]at b1 b2;obtain⟨Yn,U1⟩:=cX hj;have U1:v=md:=by simpa [Ck.mI] using U1
      subst U1;obtain⟨cE,jH⟩:=cU j (by simp) _ Yn;simp only [if_true]at cE;have Ss:m.den ρ 0=(((m.den ρ 0).toNat:Nat):Int):=by omega
      have Sl:(ad8 z.cells (m.den ρ 0).toNat).toList=aF ρ (m.den ρ 0).toNat zc:=by
       rw [tz Af,hc ρ];exact tl _ _ (by omega)
      obtain⟨v',w',r1,r2,r3,r5⟩:=o_ (P:=P) (w:=w) tt.t ti.t ty te.t kt i z te.size te.bytes hu Ym hi hz eV uu pz z3 _ _ _ (by rw [←hs];exact cE) k (m.den ρ 0).toNat (by rw [Sl];exact oI _ _) b2 b1;have fl:aF ρ ((dC n m).den ρ 0).toNat aR=aF ρ (n.den ρ 0).toNat aA++aF ρ (m.den ρ 0).toNat zc:=by
       rw [lM];obtain⟨c1,c2,c3⟩:=fD (ρ:=ρ) v1 v2 ew;rw [cy,fT];congr 1
       ·exact cH fun k hk=>by rw [c3,if_neg (by omega)]
       ·exact cH fun k hk=>by rw [c3,if_pos (by omega)];congr 1;omega
      refine⟨te.t,s,_,aR,v',w',fun k=>v'.ownBlock=some k,rfl,rfl,by rw [Ss];simp only [SV.val,adV,r1,adR,aeb],?_,⟨_,Yn,rfl⟩,⟨r3.os,r3.tape,r3.output,r3.size⟩,?_,⟨?_,fun k=>⟨fun h=>⟨h,.inl rfl⟩,fun h=>h.1⟩⟩,?_⟩
      ·rcases r2.2 with⟨rfl,_⟩ | ⟨g,o,cap,cur,rfl,_⟩<;>rfl
      ·intro k hk hn;exact r3.block k hk fun he=>hn ((jH k).2 ⟨he.symm,.inl rfl⟩)
      ·simp only [if_true];rw [fl,lM,hs,←Sl];exact r2
      ·intro k hk;rcases r5 with h | h
       ·left;rw [jH k,←h];exact⟨hk,.inl rfl⟩
       ·right;rw [hk]at h;cases h;exact⟨Nat.le_refl _,gO r2 hk⟩
     ·cases h
    ·cases h
   ·cases h
  ·cases h
 ·rename_i t hk;split at h
  ·rename_i te gK;split at h
   ·rename_i zc Af;split at h
    ·rename_i hw;cases h;simp only at cb;obtain⟨rfl,oH⟩:=ay hT fk;obtain⟨rfl,cN⟩:=ay hT gK;obtain⟨rfl,Yl⟩:=ay hT UZ;have cT:=oH.kind;rw [hk]at cT;have hu:=bL cT;have U0:=Yl.kind;rw [Xi]at U0;have Ym:=jf U0;obtain⟨i,hi,eV,uu,z,hz,hc⟩:=cN.info;have pz:z.cells.size=te.size:=by rw [←Array.length_toList,←hc ρ,bp,cN.Aa]
     obtain⟨v2,v3⟩:=bu cb;have v2:=bc v2;simp only [E.den]at v2;obtain⟨z1,z2,z3⟩:=eX (ρ:=ρ) Af;obtain⟨b1,b2⟩:=gC (n:=m) (bytes:=te.bytes) (v3 _ (by simp)) v2;have Ss:m.den ρ 0=(((m.den ρ 0).toNat:Nat):Int):=by omega
     have Sl:(ad8 z.cells (m.den ρ 0).toNat).toList=aF ρ (m.den ρ 0).toNat zc:=by
      rw [tz Af,hc ρ];exact tl _ _ (by omega)
     obtain⟨v',w',r1,r2,r3,r5⟩:=o_ (P:=P) (w:=w) tt.t ti.t ty te.t kt i z te.size te.bytes hu Ym hi hz eV uu pz z3 (.slice none 0 0) 0 [] (lG w te.t te.size) k (m.den ρ 0).toNat (by rw [Sl];exact oI _ _) (by rw [Nat.zero_add];exact b2) (by rw [Nat.zero_add];exact b1);refine⟨te.t,te.size,_,zc,v',w',fun k=>v'.ownBlock=some k,rfl,rfl,by rw [Ss];simp only [SV.val,adV,r1,adR,aeb],?_,⟨r3.os,r3.tape,r3.output,r3.size⟩,fun k hk=>r3.block k hk (by simp [Value.ownBlock]),⟨?_,fun k=>⟨fun h=>⟨h,.inl rfl⟩,fun h=>h.1⟩⟩,?_⟩
     ·rcases r2.2 with⟨rfl,_⟩ | ⟨g,o,cap,cur,rfl,_⟩<;>rfl
     ·simp only [if_true];rw [←Sl];simpa using r2
     ·intro k hk;rcases r5 with h | h
      ·rw [hk]at h;cases h
      ·rw [hk]at h;cases h;exact⟨Nat.le_refl _,gO r2 hk⟩
    ·cases h
   ·cases h
  ·cases h
 ·cases h
end
variable {P:Program} {w:World}
section
variable {ρ:Env} {hp:List Ck} {S:Nat→Nat→Prop} {nb nv:Nat} {T:List TI}
theorem DZ{b t:Nat}{cs:List Value}{S':Nat→Prop}(h:(ak b true cs).p w S')(hl:cs.length≤maxLen):w.hY t 1 (.slice (some ⟨b,0,none⟩) cs.length cs.length) cs.length cs:=by
 obtain⟨_,ty,fz,hb,hf⟩:=h;have:=hf rfl;subst this;refine⟨by omega,.inr ⟨b,0,cs.length,_,rfl,⟨ty,_,hb,.zero _⟩,Nat.le_refl _,hl,fun _=>by simp,by simp⟩⟩
theorem wN(hT:bw P T=true){ts:TypeId}{tt:TI}(fk:aS T ts=some tt){x y:SV}{res:gU}(h:uN T hp nv tt.k x y=some res)
  (cU:Reads hp ρ w S res.rd) (cb: ∀b∈res.vcs,b.prop ρ) (ty:TypeId):
  sV P ρ w hp S nb nv ((do pure (.value (←ad2 #[ts,ts] ty #[x.val ρ,y.val ρ])):Sem Next).run P w) res:=by
 unfold uN at h;split at h
 case h_2=>cases h
 rename_i t b ix s n m hk;split at h
 case h_2=>cases h
 rename_i te j b' cs q gK PA Yo hn;split at h
 case h_2=>cases h
 rename_i ki kl a sc JR iM;split at h
 case isFalse=>cases h
 rename_i hc;obtain⟨rfl,rfl,JS,hq,Me⟩:=hc;rw [adM]at h;obtain⟨aR,ew,rfl⟩:=h;simp only at cb cU;obtain⟨rfl,oH⟩:=ay hT fk;obtain⟨rfl,cN⟩:=ay hT gK;have cT:=oH.kind;rw [hk]at cT;have hu:=bL cT;obtain⟨i,hi,eV,uu,z,hz,Yp⟩:=cN.info;have pz:z.cells.size=te.size:=by rw [←Array.length_toList,←Yp ρ,bp,cN.Aa]
 obtain⟨v1,v3⟩:=bu cb;obtain⟨v1,v2⟩:=bu v1;have v2:=bc v2;simp only [E.den]at v2;have U2:n.den ρ 0=(q:Int):=cA (ρ:=ρ) hn;have U3:ix.den ρ 0=((0:Nat):Int):=cA (ρ:=ρ) Yo;obtain⟨_,s2,s3⟩:=fE (te:=te) iM (fun j hj=>cU j (adP _ hj)) v1 v2;have yz:(dC (.lit (q:Int)) sc.n).den ρ 0=(q:Int)+sc.n.den ρ 0:=by rw [bH];rfl
 obtain⟨b1,b2⟩:=gC (n:=dC (.lit (q:Int)) sc.n) (bytes:=te.bytes) (v3 _ (by simp)) (by rw [yz];omega);have lM:((dC (.lit (q:Int)) sc.n).den ρ 0).toNat=q+(sc.n.den ρ 0).toNat:=by rw [yz];omega
 rw [lM]at b1 b2;obtain⟨hj,dM⟩:=cP PA;simp only [Ck.rh,beq_iff_eq]at dM;subst dM;have hS:=cU j (by simp) _ hj;have fl:SV.ar ρ cs=al ki q (a.den ρ):=by
  have PJ:=gy (ρ:=ρ) JR;rw [Me,List.length_replicate,ov]at PJ;exact PJ
 have hlen:(SV.ar ρ cs).length=q:=by rw [fl,aE]
 have PC:(ak (ρ.bv.getD b 0) true (SV.ar ρ cs)).p w (S j):=hS;have cE:=DZ (t:=te.t) PC (by rw [hlen];unfold maxLen;omega);rw [hlen,fl]at cE;have jH: ∀k,S j k↔k=ρ.bv.getD b 0:=PC.1;obtain⟨v',w',r1,r2,r3,r5⟩:=nm (P:=P) (w:=w) tt.t ty te.t i z te.size te.bytes hu hi hz eV uu pz (by omega) _ q _ (by rw [JS];exact cE)
  _ _ _ s3 (by rw [dp,s2]) (oI _ _) (by unfold maxLen;omega) b1
 have Gu:(SV.sl b ix 1 n n).val ρ= .slice (some ⟨ρ.bv.getD b 0,0,none⟩) q q:=by simp [SV.val,U2,U3]
 have Mo:aF ρ ((dC (.lit (q:Int)) sc.n).den ρ 0).toNat aR=al ki q (a.den ρ)++aF ρ (sc.n.den ρ 0).toNat sc.aA:=by
  rw [lM];obtain⟨c1,c2,c3⟩:=fD (ρ:=ρ) (at_:= .lit (q:Int)) (by show(0:Int)≤(q:Int);omega) v2 ew;have Yq:((E.lit (q:Int)).den ρ 0).toNat=q:=by show ag (q:Int)=q;omega
  rw [Yq]at c3;rw [←dR ki q a,cy,fT];congr 1
  ·exact cH fun k hk=>by rw [c3,if_neg (by omega)]
  ·exact cH fun k hk=>by rw [c3,if_pos (by omega)];congr 1;omega
 refine⟨te.t,1,_,aR,v',w',fun k=>v'.ownBlock=some k,rfl,rfl,by rw [Gu];simp only [adV,r1,adR,aeb],?_,⟨_,hj,rfl⟩,⟨r3.os,r3.tape,r3.output,r3.size⟩,?_,⟨?_,fun k=>⟨fun h=>⟨h,.inl rfl⟩,fun h=>h.1⟩⟩,?_⟩
 ·rcases r2.2 with⟨rfl,_⟩ | ⟨g,o,cap,cur,rfl,_⟩<;>rfl
 ·intro k hk Yr;refine r3.block k hk fun he=>Yr ((jH k).2 ?_)
  simp only [Value.ownBlock,adK]at he;exact he
 ·simp only [if_true];rw [Mo,lM,←JS];exact r2
 ·intro k hk;rcases r5 with h | h
  ·left;rw [hk]at h;simp only [Value.ownBlock,adK]at h;exact(jH k).2 h
  ·right;rw [hk]at h;cases h;exact⟨Nat.le_refl _,gO r2 hk⟩
theorem tA: ∀{cs:List SV} {l:List Nat},w6 cs=some l→SV.ar ρ cs=l.map fun n=>(ρ.vv.getD n V1.nil).v
 | [],l,h=>by cases h;rfl
 | .vv i::r,l,h=>by
  simp only [w6,adM]at h;obtain⟨l',h',rfl⟩:=h;simp only [SV.ar,SV.cells,tA h',ad1,List.singleton_append]
theorem rD{x:SV}{j:Nat}{l:List Nat}(h:tB hp x=some (j,l))(cU:Reads hp ρ w S [j]):
  ∃b c,x.val ρ= .slice (some ⟨b,0,none⟩) l.length c∧∀(k:Nat) u,(l.map fun n=>(ρ.vv.getD n V1.nil).v)[k]? =some u→w.cell? ((⟨b,0,none⟩:Addr).add k)=some u:=by
 unfold tB at h;split at h
 case h_2=>cases h
 rename_i b i s n m;split at h
 case h_2=>cases h
 rename_i j' b' wr cs q hf hi hn;split at h
 case h_2=>cases h
 rename_i l' hl;split at h
 case isFalse=>cases h
 rename_i hq;cases h;obtain⟨hj,dM⟩:=cP hf;simp only [Ck.rh,beq_iff_eq]at dM;subst dM;have hS:(ak (ρ.bv.getD b 0) wr (SV.ar ρ cs)).p w (S j):=cU j (by simp) _ hj;obtain⟨_,ty,fz,hg,_⟩:=hS;have U2:=cA (ρ:=ρ) hn;have U3:=cA (ρ:=ρ) hi;refine⟨ρ.bv.getD b 0,(m.den ρ 0).toNat,by simp [SV.val,U2,U3,hq],fun k u hu=>?_⟩;rw [←tA hl]at hu;rw [eD];simp only [World.cell?,hg];simpa using hu
theorem PK(l:List Nat):aF ρ l.length [⟨.Gk l,1,.lit 0⟩]=l.map fun n=>(ρ.vv.getD n V1.nil).v:=by
 unfold aF aH;simp only [ad1,List.map_nil,List.flatMap_cons,List.flatMap_nil,adW,bV.cells,dI,List.range_one,ad1,List.map_nil];rw [List.flatMap_def];apply List.ext_getElem?;intro k;have: ∀(g:Nat→Value) (n:Nat),(List.map (fun i=>[g i]) (aec n)).flatten=(aec n).map g:=by
  intro g n
  induction n with
  | zero=>rfl
  | succ n ih=>rw [List.range_succ,List.map_append,List.map_append,List.flatten_append,ih];simp
 rw [this fun i=>((l[i*1+0]?).elim V1.nil fun n=>ρ.vv.getD n V1.nil).v];rw [List.getElem?_map,List.getElem?_map];by_cases hk:k<l.length
 ·rw [List.getElem?_range hk,ad9 hk];simp [ad9 hk]
 ·rw [aeh (by simp;omega),aeh (by omega)];rfl
theorem wO(hT:bw P T=true){ts:TypeId}{tt:TI}(fk:aS T ts=some tt){x y:SV}{res:gU}(h:uO T hp nv tt.k x y=some res)
  (cU:Reads hp ρ w S res.rd) (ty:TypeId):
  sV P ρ w hp S nb nv ((do pure (.value (←ad2 #[ts,ts] ty #[x.val ρ,y.val ρ])):Sem Next).run P w) res:=by
 unfold uO at h;split at h
 case h_2=>cases h
 rename_i t b ix s n m hk;split at h
 case h_2=>cases h
 rename_i te j l j' l' gK hx hy;split at h
 case isFalse=>cases h
 rename_i hc;obtain⟨rfl,JS,fc,Ua,UN⟩:=hc;cases h;simp only at cU;obtain⟨rfl,oH⟩:=ay hT fk;obtain⟨rfl,cN⟩:=ay hT gK;have cT:=oH.kind;rw [hk]at cT;have hu:=bL cT;obtain⟨i,hi,eV,uu,z,hz,Yp⟩:=cN.info;have pz:z.cells.size=te.size:=by rw [←Array.length_toList,←Yp ρ,bp,cN.Aa]
 obtain⟨xb,xc,Gu,Ys⟩:=rD hx (fun k hk=>cU k (by simp at hk;simp [hk]));obtain⟨yb,yc,Yt,Yu⟩:=rD hy (fun k hk=>cU k (by simp at hk;simp [hk]));have hxc:xc=l.length:=by
  have:(SV.sl b ix s n n).val ρ= .slice (some ⟨ρ.bv.getD b 0,(ix.den ρ 0).toNat*s,none⟩) (n.den ρ 0).toNat (n.den ρ 0).toNat:=rfl;rw [this]at Gu;simp only [Value.slice.injEq]at Gu;omega
 subst hxc;obtain⟨v',w',r1,r2,r3,r5⟩:=o7 (P:=P) (w:=w) tt.t ty te.t i z te.size te.bytes hu hi hz eV uu pz ⟨xb,0,none⟩ l.length _ (by rw [List.length_map,JS,Nat.mul_one]) Ys
  ⟨yb,0,none⟩ l'.length yc (by omega) _ (by rw [List.length_map,JS,Nat.mul_one]) Yu (by unfold maxLen;omega) Ua
 refine⟨te.t,1,_,_,v',w',fun k=>v'.ownBlock=some k,rfl,rfl,by rw [Gu,Yt];simp only [adV,r1,adR,aeb],?_,⟨r3.os,r3.tape,r3.output,r3.size⟩,fun k hk=>r3.block k hk (by simp),⟨?_,fun k=>⟨fun h=>⟨h,.inl rfl⟩,fun h=>h.1⟩⟩,?_⟩
 ·rcases r2.2 with⟨rfl,_⟩ | ⟨g,o,cap,cur,rfl,_⟩<;>rfl
 ·simp only [if_true];have e:((E.lit ((l.length+l'.length:Nat):Int)).den ρ 0).toNat=(l++l').length:=by
   show ag ((l.length+l'.length:Nat):Int)=_;rw [Int.toNat_natCast,List.length_append]
  rw [e,PK,List.map_append,List.length_append,←JS];exact r2
 ·intro k hk;rw [hk]at r5;cases r5;exact⟨Nat.le_refl _,gO r2 hk⟩
end
end Go.RX
