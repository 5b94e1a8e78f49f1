/- A reflective symbolic executor, part 15a: slices az parts of others. · A reflective symbolic executor, part 15b: slice expressions. -/
import Derived.Test.YtfnaoeleljhmhaaGreatM09

namespace Go.RX
section
variable {P:Program} {ρ:Env} {w:World} {look:Nat→Option SV} {vals:Operand→Value} {hp:List Ck} {S:Nat→Nat→Prop} {nb nv:Nat} {T:List TI}
theorem bLe'_prop{a b:E}(h: ∀c∈bLe' a b,c.prop ρ):a.den ρ 0≤b.den ρ 0:=by
 unfold bLe' at h;split at h
 ·rename_i he;subst he;exact Int.le_refl _
 ·have key:(bLe a b).den ρ=true:=by
   by_cases hl:bLe a b= .lit true
   ·rw [hl];rfl
   ·exact(BE.den_iff ρ _).2 (h _ (List.mem_filter.2 ⟨by simp,by simpa using hl⟩))
  rw [bLe_den]at key;exact of_decide_eq_true key
theorem bLt_filter_prop{a b:E}(h: ∀c∈[bLt a b].filter fun b=>b != .lit true,c.prop ρ):a.den ρ 0<b.den ρ 0:=by
 have key:(bLt a b).den ρ=true:=by
  by_cases hl:bLt a b= .lit true
  ·rw [hl];rfl
  ·exact(BE.den_iff ρ _).2 (h _ (List.mem_filter.2 ⟨by simp,by simpa using hl⟩))
 rw [bLt_den]at key;exact of_decide_eq_true key
theorem mem_app{α:Type}{q:α→Prop}{a b:List α}(h: ∀c∈a++b,q c):(∀c∈a,q c)∧∀c∈b,q c:=
 ⟨fun c hc=>h c (List.mem_append_left _ hc),fun c hc=>h c (List.mem_append_right _ hc)⟩
theorem addr_add_zero(a:Addr):a.add 0=a:=by simp [Addr.add]
theorem map_add_zero(a:Option Addr):a.map (·.add 0)=a:=by cases a<;>simp [addr_add_zero]
structure SubOf (s:Nat) (v x:Value) (n L N:Int) (mx:Option Int):Prop where
 lo:0≤L
 hi:L+N≤n
 top: ∀m,mx=some m→L+N≤m∧m≤n
 is: ∃a c k,v= .slice a n.toNat c∧n.toNat≤c∧x= .slice (a.map (·.add k)) N.toNat ((mx.map Int.toNat).getD c - L.toNat)∧(L.toNat<(mx.map Int.toNat).getD c∨L=0→k=L.toNat*s)
abbrev Part.den(ρ:Env)(p:Part):Int×Int×Option Int:=(p.lo.den ρ 0,p.len.den ρ 0,p.mx.map fun m=>m.den ρ 0)
def SubAt(ρ:Env)(s:Nat)(v x:Value)(n:E)(p:Part):Prop:=SubOf s v x (n.den ρ 0) (p.lo.den ρ 0) (p.len.den ρ 0) (p.mx.map fun m=>m.den ρ 0)
theorem SubAt.whole{s:Nat}{v:Value}{n:E}(h: ∃a c,v= .slice a (n.den ρ 0).toNat c∧(n.den ρ 0).toNat≤c):SubAt ρ s v v n ⟨.lit 0,n,none⟩:=by
 obtain⟨a,c,hv,hc⟩:=h;refine⟨by simp [E.den],by simp [E.den],by simp,a,c,0,hv,hc,?_,?_⟩
 ·rw [map_add_zero];simpa [E.den] using hv
 ·simp [E.den]
theorem SubAt.step{s:Nat}{v x:Value}{n:E}{p:Part}(h:SubAt ρ s v x n p)(c:Cut)(hvc: ∀b∈(cutStep n p c).2,b.prop ρ):
  SubAt ρ s v (subSlice s x (c.lo.den ρ 0).toNat (c.hi.den ρ 0).toNat (c.mx.map fun m=>(m.den ρ 0).toNat)) n (cutStep n p c).1∧
  0≤c.lo.den ρ 0∧c.lo.den ρ 0≤c.hi.den ρ 0∧(∀m,c.mx=some m→c.hi.den ρ 0≤m.den ρ 0)∧
  ∃a N C,x= .slice a N C∧N=(p.len.den ρ 0).toNat∧(c.mx=none→(c.hi.den ρ 0).toNat≤C)∧∀m,c.mx=some m→(m.den ρ 0).toNat≤C:=by
 obtain⟨lo,hi,mx⟩:=c;obtain⟨pl,pn,pm⟩:=p;obtain⟨h1,h2,h3,a,c,k,rfl,hc,rfl,hk⟩:=h;simp only [cutStep]at hvc ⊢;obtain⟨hv1,hv2⟩:=mem_app hvc;obtain⟨hv0,hv1⟩:=mem_app hv1;have e0:=bLe'_prop hv0;have e1:=bLe'_prop hv1;simp only [E.den]at e0;simp only at h1 h2 h3 hk;generalize hL:pl.den ρ 0=L at*;generalize hN:pn.den ρ 0=N at*;generalize hn:n.den ρ 0=nn at*;generalize hl:lo.den ρ 0=l at*;generalize hh:hi.den ρ 0=hd at*;cases mx with
 | none=>
  cases pm with
  | none=>
   simp only []at hv2;have e2:=bLe'_prop hv2;rw [eAdd_den,hL,hh,hn]at e2;simp only [Option.map_none,Option.getD_none]at hk ⊢;refine⟨⟨by simp only [eAdd_den,hL,hl];omega,by simp only [eAdd_den,eSub_den,hL,hl,hh,hn];omega,by simp,a,c,k+if c - L.toNat=l.toNat then 0 else l.toNat*s,by rw [hn],by rw [hn];exact hc,?_,?_⟩,e0,e1,by simp,_,_,_,rfl,rfl,fun _=>by omega,by simp⟩
   ·simp only [subSlice,Option.map_none,Option.getD_none,eAdd_den,eSub_den,hL,hl,hh];congr 1
    ·split
     ·simp
     ·cases a<;>simp [addr_add_add]
    ·omega
    ·omega
   ·simp only [eAdd_den,hL,hl];intro hor;rcases hor with hor | hor
    ·simp only [Option.map_none,Option.getD_none]at hor;rw [if_neg (by omega),hk (.inl (by omega)),←Nat.add_mul];congr 1;omega
    ·have hl0:l=0:=by omega
     have hL0:L=0:=by omega
     subst hl0 hL0;rw [hk (.inr rfl)];simp
  | some m0=>
   simp only []at hv2;have e2:=bLe'_prop hv2;rw [eAdd_den,hL,hh]at e2;simp only [Option.map_some,Option.getD_some]at hk h3 ⊢;have h3':=h3 _ rfl;generalize hm:m0.den ρ 0=m at*;refine⟨⟨by simp only [eAdd_den,hL,hl];omega,by simp only [eAdd_den,eSub_den,hL,hl,hh,hn];omega,?_,a,c,k+if m.toNat - L.toNat=l.toNat then 0 else l.toNat*s,by rw [hn],by rw [hn];exact hc,?_,?_⟩,e0,e1,by simp,_,_,_,rfl,rfl,fun _=>by omega,by simp⟩
   ·simp only [Option.map_some,eAdd_den,eSub_den,hL,hl,hh,hn,hm,Option.some.injEq];rintro _ rfl;omega
   ·simp only [subSlice,Option.map_none,Option.getD_none,Option.getD_some,Option.map_some,eAdd_den,eSub_den,hL,hl,hh,hm];congr 1
    ·split
     ·simp
     ·cases a<;>simp [addr_add_add]
    ·omega
    ·omega
   ·simp only [eAdd_den,hL,hl,Option.map_some,Option.getD_some,hm];intro hor;rcases hor with hor | hor
    ·rw [if_neg (by omega),hk (.inl (by omega)),←Nat.add_mul];congr 1;omega
    ·have hl0:l=0:=by omega
     have hL0:L=0:=by omega
     subst hl0 hL0;rw [hk (.inr rfl)];simp
 | some mq=>
  have e3:(hd≤mq.den ρ 0)∧L+mq.den ρ 0≤nn∧∀m0,pm=some m0→L+mq.den ρ 0≤m0.den ρ 0:=by
   cases pm with
   | none=>
    simp only []at hv2;obtain⟨g1,g2⟩:=mem_app hv2;have g1:=bLe'_prop g1;have g2:=bLe'_prop g2;rw [eAdd_den,hL,hn]at g2;rw [hh]at g1;exact⟨g1,g2,by simp⟩
   | some m0=>
    simp only []at hv2;obtain⟨g1,g2⟩:=mem_app hv2;have g1:=bLe'_prop g1;have g2:=bLe'_prop g2;rw [eAdd_den,hL]at g2;rw [hh]at g1;have:L+N≤m0.den ρ 0∧m0.den ρ 0≤nn:=h3 _ rfl;refine⟨g1,by omega,?_⟩;rintro _ ⟨⟩;exact g2
  obtain⟨e3,e4,e5⟩:=e3;generalize hm:mq.den ρ 0=m at*;have htop:L.toNat+m.toNat≤(Option.map Int.toNat (Option.map (fun m=>E.den ρ m 0) pm)).getD c:=by
   cases pm with
   | none=>simp only [Option.map_none,Option.getD_none];omega
   | some m0=>
    have:=e5 _ rfl;simp only [Option.map_some,Option.getD_some];omega
  generalize (Option.map Int.toNat (Option.map (fun m=>E.den ρ m 0) pm)).getD c=tp at*;simp only [Option.map_some];refine⟨⟨by simp only [eAdd_den,hL,hl];omega,by simp only [eAdd_den,eSub_den,hL,hl,hh,hn];omega,?_,a,c,k+if m.toNat=l.toNat then 0 else l.toNat*s,by rw [hn],by rw [hn];exact hc,?_,?_⟩,e0,e1,?_,_,_,_,rfl,rfl,by simp,?_⟩
  ·simp only [Option.map_some,eAdd_den,eSub_den,hL,hl,hh,hn,hm,Option.some.injEq];rintro _ rfl;omega
  ·simp only [subSlice,Option.getD_some,Option.map_some,eAdd_den,eSub_den,hL,hl,hh,hm];congr 1
   ·split
    ·simp
    ·cases a<;>simp [addr_add_add]
   ·omega
   ·omega
  ·simp only [eAdd_den,hL,hl,Option.map_some,Option.getD_some,hm];intro hor;rcases hor with hor | hor
   ·rw [if_neg (by omega),hk (.inl (by omega)),←Nat.add_mul];congr 1;omega
   ·have hl0:l=0:=by omega
    have hL0:L=0:=by omega
    subst hl0 hL0;rw [hk (.inr rfl)];simp
  ·rintro _ ⟨⟩;rw [hm];exact e3
  ·rintro _ ⟨⟩;rw [hm];omega
theorem cutsOf_spec{s:Nat}{v:Value}{n:E}: ∀(cs:List Cut) (x:Value) (p:Part),SubAt ρ s v x n p→(∀b∈(cutsOf n cs p).2,b.prop ρ)→SubAt ρ s v (subSlices ρ s x cs) n (cutsOf n cs p).1
 | [],_,_,h,_=>h
 | c::r,x,p,h,hvc=>by
  simp only [cutsOf]at hvc ⊢;obtain⟨h1,h2⟩:=mem_app hvc;exact cutsOf_spec r _ _ (h.step c h1).1 h2
theorem sli_whole{md:Bool}{t s n:Nat}{v:Value}{cs:List Value}{S:Nat→Prop}(h:(sliHP md t s v n cs).p w S): ∃a c,v= .slice a n c∧n≤c:=by
 obtain⟨h0,_⟩:=h;cases md with
 | true=>
  simp only [if_true]at h0;rcases h0.2 with⟨rfl,rfl⟩ | ⟨g,o,cap,cur,rfl,_,hnc,_⟩
  ·exact⟨_,_,rfl,Nat.le_refl _⟩
  ·exact⟨_,_,rfl,hnc⟩
 | false=>
  simp only [Bool.false_eq_true,if_false]at h0;obtain⟨_,a,m,c',rfl,rfl,hmc,_⟩:=h0;exact⟨_,_,rfl,hmc⟩
theorem rootSV_spec{x:SV}{r:Rt}(h:rootSV hp x=some r)(hrd:Reads hp ρ w S [r.j])(hvc: ∀b∈r.vcs,b.prop ρ):
  hp[r.j]? =some (.sli r.md r.v r.t r.s r.n r.cols)∧SubAt ρ r.s (ρ.vv.getD r.v V1.nil).v (x.val ρ) r.n r.p:=by
 unfold rootSV at h;split at h
 ·rename_i v;split at h
  ·rename_i j md v' t s n cols hf;cases h;obtain⟨hj,hat⟩:=findOwn_spec hf;simp only [Ck.ownOf,beq_iff_eq]at hat;subst hat;have hS:=hrd j (by simp) _ hj;exact⟨hj,SubAt.whole (sli_whole hS)⟩
  ·cases h
 ·rename_i v cs s';split at h
  ·rename_i j md v' t s n cols hf;split at h
   ·rename_i hs;subst hs;cases h;obtain⟨hj,hat⟩:=findOwn_spec hf;simp only [Ck.ownOf,beq_iff_eq]at hat;subst hat;have hS:=hrd j (by simp) _ hj;exact⟨hj,cutsOf_spec cs _ _ (SubAt.whole (sli_whole hS)) hvc⟩
   ·cases h
  ·cases h
 ·cases h
end
end Go.RX

namespace Go.RX
def OptInt:Option Value→Option Int→Prop
 | none,none=>True
 | some v,some i=> ∃k,v= .int k i
 | _,_=>False
section
variable {P:Program} {ρ:Env} {w:World} {look:Nat→Option SV} {vals:Operand→Value} {hp:List Ck} {S:Nat→Nat→Prop} {nb nv:Nat} {T:List TI}
theorem intOpt_spec(hops:OpsOk ρ look vals){o:Option Operand}{l:Option E}(h:intOpt look o=some l):OptInt (o.map vals) (l.map fun e:E=>e.den ρ 0):=by
 unfold intOpt at h;split at h
 ·cases h;exact True.intro
 ·split at h
  ·rename_i k e he;cases h;exact⟨k,opEval_spec hops he⟩
  ·cases h
theorem run_bounds(isS:Bool)(N C:Nat){lo hi mx:Option Value}{l h m:Option Int}(hl:OptInt lo l)(hh:OptInt hi h)(hm:OptInt mx m)(hx:m.isSome=true→h.isSome=true)
  (h0:0≤l.getD 0) (h1:l.getD 0≤h.getD (N:Int)) (h2: ∀x,m=some x→h.getD (N:Int)≤x∧x≤C) (h3:m=none→h.getD (N:Int)≤C):
  (Instr.sliceBounds isS N C lo hi mx).run P w= .ok ((l.getD 0).toNat,(h.getD (N:Int)).toNat,(m.map Int.toNat).getD C) w:=by
 have hb:=fun(k:IntKind) (i:Int) (y:Nat) (code:BoundsCode) (a:0≤i) (b:i≤y)=>run_sliceBound (P:=P) (w:=w) k i y code a b
 cases m with
 | none=>
  have h3:=h3 rfl;cases mx with
  | some v=>exact hm.elim
  | none=>
   cases h with
   | none=>
    cases hi with
    | some v=>exact hh.elim
    | none=>
     cases l with
     | none=>
      cases lo with
      | some v=>exact hl.elim
      | none=>simp [Instr.sliceBounds]
     | some l=>
      cases lo with
      | none=>exact hl.elim
      | some v=>
       obtain⟨k,rfl⟩:=hl;simp only [Option.getD_some,Option.getD_none]at h0 h1;simp [Instr.sliceBounds,hb k l N _ h0 h1]
   | some h=>
    cases hi with
    | none=>exact hh.elim
    | some v=>
     obtain⟨kh,rfl⟩:=hh;simp only [Option.getD_some]at h1 h3;have hhn:(h.toNat:Int)=h:=Int.toNat_of_nonneg (by omega);cases l with
     | none=>
      cases lo with
      | some v=>exact hl.elim
      | none=>
       simp only [Option.getD_none]at h1;simp [Instr.sliceBounds,hb kh h C _ h1 h3]
     | some l=>
      cases lo with
      | none=>exact hl.elim
      | some v=>
       obtain⟨k,rfl⟩:=hl;simp only [Option.getD_some]at h0 h1;simp [Instr.sliceBounds,hb kh h C _ (by omega) h3,hb k l h.toNat _ h0 (by omega)]
 | some m=>
  obtain⟨g2,g3⟩:=h2 m rfl;cases mx with
  | none=>exact hm.elim
  | some v=>
   obtain⟨km,rfl⟩:=hm;cases h with
   | none=>simp at hx
   | some h=>
    cases hi with
    | none=>exact hh.elim
    | some v=>
     obtain⟨kh,rfl⟩:=hh;simp only [Option.getD_some]at h1 g2;cases l with
     | none=>
      cases lo with
      | some v=>exact hl.elim
      | none=>
       simp only [Option.getD_none]at h1;simp [Instr.sliceBounds,hb km m C _ (by omega) g3,hb kh h m.toNat _ (by omega) (by omega)]
     | some l=>
      cases lo with
      | none=>exact hl.elim
      | some v=>
       obtain⟨k,rfl⟩:=hl;simp only [Option.getD_some]at h0 h1;simp [Instr.sliceBounds,hb km m C _ (by omega) g3,hb kh h m.toNat _ (by omega) (by omega),hb k l h.toNat _ h0 (by omega)]
theorem run_slice_of(hT:checkT P T=true){t:TypeId}{tt te:TI}(ht:tlook T t=some tt){e:Nat}(hk:tt.k= .slice e)(hte:tlook T e=some te)
  (a:Option Addr) (N C:Nat) {lo hi mx:Option Value} {l h m:Option Int} (hl:OptInt lo l) (hh:OptInt hi h) (hm:OptInt mx m) (hx:m.isSome=true→h.isSome=true)
  (h0:0≤l.getD 0) (h1:l.getD 0≤h.getD (N:Int)) (h2: ∀x,m=some x→h.getD (N:Int)≤x∧x≤C) (h3:m=none→h.getD (N:Int)≤C):
  (Instr.sliceAt t (.slice a N C) lo hi mx).run P w= .ok (subSlice te.size (.slice a N C) (l.getD 0).toNat (h.getD (N:Int)).toNat (m.map Int.toNat)) w:=by
 obtain⟨rfl,hts⟩:=tlook_spec hT ht;obtain⟨rfl,hti⟩:=tlook_spec hT hte;have hkk:=hts.kind;rw [hk]at hkk;have hu:=kind_slice hkk;have:=run_bounds (P:=P) (w:=w) true N C hl hh hm hx h0 h1 h2 h3;simp [Instr.sliceAt,Instr.slice,run_underlying hu,this,hti.sizeOf w,subSlice]
theorem run_slice_arr(hT:checkT P T=true){t:TypeId}{tt te:TI}(ht:tlook T t=some tt){n e:Nat}(hk:tt.k= .arr n e)(hte:tlook T e=some te)
  (a:Addr) {lo hi mx:Option Value} {l h m:Option Int} (hl:OptInt lo l) (hh:OptInt hi h) (hm:OptInt mx m) (hx:m.isSome=true→h.isSome=true)
  (h0:0≤l.getD 0) (h1:l.getD 0≤h.getD (n:Int)) (h2: ∀x,m=some x→h.getD (n:Int)≤x∧x≤n) (h3:m=none→h.getD (n:Int)≤n):
  (Instr.sliceAt t (.pointer (some a)) lo hi mx).run P w= .ok (subSlice te.size (.slice (some a) n n) (l.getD 0).toNat (h.getD (n:Int)).toNat (m.map Int.toNat)) w:=by
 obtain⟨rfl,hts⟩:=tlook_spec hT ht;obtain⟨rfl,hti⟩:=tlook_spec hT hte;have hkk:=hts.kind;rw [hk]at hkk;have hu:=kind_arr hkk;have:=run_bounds (P:=P) (w:=w) false n n hl hh hm hx h0 h1 h2 h3;simp only [Instr.sliceAt,Sem.run_bind,run_underlying hu,Result.andThen_ok,Instr.sureAddr,Sem.run_pure,this,hti.sizeOf w,subSlice];congr 2;split<;>simp
theorem sub_row(b i0 n0 m0 s:Nat)(l h:Int)(m:Int)(h0:0≤l)(h1:l≤h)(h2:h≤m)(h3:l=0∨l<m):
  subSlice s (.slice (some ⟨b,i0*s,none⟩) n0 m0) l.toNat h.toNat (some m.toNat)= .slice (some ⟨b,(i0+l.toNat)*s,none⟩) (h - l).toNat (m - l).toNat:=by
 simp only [subSlice,Option.getD_some];congr 1
 ·rcases h3 with rfl | h3
  ·simp [addr_add_zero]
  ·rw [if_neg (by omega),Option.map_some,addr_add_lit,Nat.add_mul]
 ·omega
 ·omega
theorem den_getD(o:Option E)(d:E):(o.getD d).den ρ 0=(o.map fun e:E=>e.den ρ 0).getD (d.den ρ 0):=by cases o<;>rfl
theorem sliceVal_val{x v:SV}{c:Cut}{s:Nat}(h:sliceVal x c s=some v):
  v.val ρ=subSlice s (x.val ρ) (c.lo.den ρ 0).toNat (c.hi.den ρ 0).toNat (c.mx.map fun m=>(m.den ρ 0).toNat):=by
 unfold sliceVal at h;split at h
 ·cases h;rfl
 ·split at h
  ·rename_i hs;subst hs;cases h;simp only [SV.val,subSlices_append];rfl
  ·cases h
 ·cases h
theorem low_ok{l mm:E}(h: ∀b∈(if l= .lit 0 then []else [bLt l mm].filter fun b=>b != .lit true),b.prop ρ):l.den ρ 0=0∨l.den ρ 0<mm.den ρ 0:=by
 split at h
 ·rename_i hl;subst hl;exact .inl rfl
 ·exact .inr (bLt_filter_prop h)
theorem sliceSym_sound(hT:checkT P T=true){t:TypeId}{tt:TI}(htt:tlook T t=some tt){x:SV}{l h m:Option E}{res:Res}(hs:sliceSym T hp tt.k x l h m=some res)
  {lo hi mx:Option Value} (hl:OptInt lo (l.map fun e:E=>e.den ρ 0)) (hh:OptInt hi (h.map fun e:E=>e.den ρ 0)) (hm:OptInt mx (m.map fun e:E=>e.den ρ 0))
  (hrd:Reads hp ρ w S res.rd) (hvc: ∀b∈res.vcs,b.prop ρ):
  (Instr.sliceAt t (x.val ρ) lo hi mx).run P w= .ok (res.val.val ρ) w∧res.eff= .none:=by
 unfold sliceSym at hs;split at hs
 ·cases hs
 ·rename_i hmx;have hx:(m.map fun e:E=>e.den ρ 0).isSome=true→(h.map fun e:E=>e.den ρ 0).isSome=true:=by
   cases m<;>cases h<;>simp_all
  split at hs
  ·rename_i e b i s n cap hk;split at hs
   ·rename_i te hte;split at hs
    ·rename_i hsz;subst hsz;simp only [Option.some.injEq]at hs;subst hs;refine⟨?_,rfl⟩;simp only at hvc;obtain⟨hvc,q6⟩:=mem_app hvc;obtain⟨hvc,q5⟩:=mem_app hvc;obtain⟨hvc,q4⟩:=mem_app hvc;obtain⟨hvc,q3⟩:=mem_app hvc;obtain⟨hvc,q2⟩:=mem_app hvc;obtain⟨q0,q1⟩:=mem_app hvc;have q0:=bLe'_prop q0;have q1:=bLe'_prop q1;have q2:=bLe'_prop q2;have q3:=bLe'_prop q3;have q4:=bLe'_prop q4;have q5:=bLe'_prop q5;have q6:=low_ok q6;simp only [den_getD,E.den]at q0 q1 q2 q3 q4 q5 q6;have e1:(SV.sl b i te.size n cap).val ρ= .slice (some ⟨ρ.bv.getD b 0,(i.den ρ 0).toNat*te.size,none⟩) (n.den ρ 0).toNat (cap.den ρ 0).toNat:=rfl;have hNn:((n.den ρ 0).toNat:Int)=n.den ρ 0:=Int.toNat_of_nonneg q5;have hrun:=run_slice_of (P:=P) (w:=w) hT htt hk hte (some ⟨ρ.bv.getD b 0,(i.den ρ 0).toNat*te.size,none⟩) (n.den ρ 0).toNat (cap.den ρ 0).toNat hl hh hm hx q1 (by rw [hNn];exact q2)
      (fun x hx=>by rw [hx]at q3 q4;rw [hNn];simp only [Option.getD_some]at q3 q4;exact⟨q3,by omega⟩) (fun hx=>by rw [hx]at q3;rw [hNn];simp only [Option.getD_none]at q3;omega)
     rw [e1,hrun,hNn];congr 1;have hmm:subSlice te.size (.slice (some ⟨ρ.bv.getD b 0,(i.den ρ 0).toNat*te.size,none⟩) (n.den ρ 0).toNat (cap.den ρ 0).toNat) ((l.map fun e:E=>e.den ρ 0).getD 0).toNat
       ((h.map fun e:E=>e.den ρ 0).getD (n.den ρ 0)).toNat ((m.map fun e:E=>e.den ρ 0).map Int.toNat)=
       subSlice te.size (.slice (some ⟨ρ.bv.getD b 0,(i.den ρ 0).toNat*te.size,none⟩) (n.den ρ 0).toNat (cap.den ρ 0).toNat) ((l.map fun e:E=>e.den ρ 0).getD 0).toNat
       ((h.map fun e:E=>e.den ρ 0).getD (n.den ρ 0)).toNat (some ((m.map fun e:E=>e.den ρ 0).getD (cap.den ρ 0)).toNat):=by
      cases m<;>rfl
     rw [hmm,sub_row _ _ _ _ _ _ _ _ q1 q2 q3 q6];simp only [SV.val,eAdd_den,eSub_den,den_getD,E.den];congr 4;omega
    ·cases hs
   ·cases hs
  ·rename_i e hk;split at hs
   ·rename_i te hte;split at hs
    ·rename_i hz;cases hs;obtain⟨z1,z2,z3⟩:=hz;refine⟨?_,rfl⟩;have g1:(l.map fun e:E=>e.den ρ 0).getD 0=0:=by cases l with | none=>rfl | some l=>simp only [Option.getD_some]at z1;subst z1;rfl
     have g2:(h.map fun e:E=>e.den ρ 0).getD 0=0:=by cases h with | none=>rfl | some l=>simp only [Option.getD_some]at z2;subst z2;rfl
     have g3:(m.map fun e:E=>e.den ρ 0).getD 0=0:=by cases m with | none=>rfl | some l=>simp only [Option.getD_some]at z3;subst z3;rfl
     have hrun:=run_slice_of (P:=P) (w:=w) hT htt hk hte none 0 0 hl hh hm hx (by rw [g1];exact Int.le_refl _) (by rw [g1];simp only [Int.natCast_zero,g2];exact Int.le_refl _)
      (fun x hx=>by rw [hx]at g3;simp only [Option.getD_some]at g3;subst g3;simp only [Int.natCast_zero,g2];exact⟨Int.le_refl _,Int.le_refl _⟩) (fun _=>by simp only [Int.natCast_zero,g2];exact Int.le_refl _)
     rw [show(SV.nils).val ρ= .slice none 0 0 from rfl,hrun];congr 1;simp only [g1,Int.natCast_zero,g2];cases m with
     | none=>simp [subSlice]
     | some m=>simp only [Option.map_some,Option.getD_some]at g3;simp [subSlice,g3]
    ·cases hs
   ·cases hs
  ·rename_i e hk _ _;split at hs
   ·rename_i te r hte hr;split at hs
    ·rename_i hsz;dsimp only at hs;split at hs
     ·rename_i v hv;cases hs;refine⟨?_,rfl⟩;simp only at hvc;obtain⟨hv1,hv2⟩:=mem_app hvc;obtain⟨hj,hsub⟩:=rootSV_spec hr hrd hv1;obtain⟨h1,h2,h3,h4,a,N,C,hxv,hN,hC,hCm⟩:=hsub.step _ hv2;rw [sliceVal_val hv,hxv];simp only [den_getD,E.den]at h2 h3 h4 hC ⊢;have hxN:(h.map fun e:E=>e.den ρ 0).getD (r.p.len.den ρ 0)=(h.map fun e:E=>e.den ρ 0).getD (N:Int)∨(h=none∧r.p.len.den ρ 0≤N):=by
       cases h with
       | none=>right;exact⟨rfl,by omega⟩
       | some h=>left;rfl
      have hxN:(h.map fun e:E=>e.den ρ 0).getD (N:Int)=(h.map fun e:E=>e.den ρ 0).getD (r.p.len.den ρ 0):=by
       rcases hxN with h | ⟨rfl,hle⟩
       ·exact h.symm
       ·simp only [Option.map_none,Option.getD_none]at h3 ⊢;omega
      have hrun:=run_slice_of (P:=P) (w:=w) hT htt hk hte a N C hl hh hm hx h2 (by rw [hxN];exact h3)
       (fun x hx=>by
        rw [hxN];rw [Option.map_eq_some_iff]at hx;obtain⟨me,hme,rfl⟩:=hx;have:=h4 me hme;have:=hCm me hme;exact⟨h4 me hme,by omega⟩)
       (fun hx=>by
        rw [hxN];have:=hC (by simpa using hx);omega)
      rw [hrun,hxN,hsz];congr 2;cases m<;>rfl
     ·cases hs
    ·cases hs
   ·cases hs
  ·rename_i n e v i s c hk;split at hs
   ·rename_i te j md v' t' s' m' cols hte hf;cases hs;obtain⟨hj,hat⟩:=findOwn_spec hf;simp only [Ck.ownOf,beq_iff_eq]at hat;subst hat;have hS:=hrd j (by simp) _ hj;obtain⟨h0,h1⟩:=inRange_prop ρ hvc;obtain⟨a,cp,he⟩:=sli_addr hS (by omega);have e2:(SV.pv v i s c).val ρ= .pointer (some (a.add ((i.den ρ 0).toNat*s+c))):=by rw [SV.val,he];rfl
    refine⟨?_,rfl⟩;have hrun:=run_slice_arr (P:=P) (w:=w) hT htt hk hte (a.add ((i.den ρ 0).toNat*s+c)) hl hh hm hx (by simp) (by simp) (by simp) (by simp);rw [e2,hrun];simp only [SV.val,he,aslV];simp [subSlice,addr_add_zero]
   ·cases hs
  ·rename_i n e b c hk;split at hs
   ·rename_i te hte;split at hs
    ·rename_i hsz;obtain⟨hsz,hmod⟩:=hsz;simp only [Option.some.injEq]at hs;subst hs;refine⟨?_,rfl⟩;simp only at hvc;obtain⟨hvc,q6⟩:=mem_app hvc;obtain⟨hvc,q4⟩:=mem_app hvc;obtain⟨hvc,q3⟩:=mem_app hvc;obtain⟨q1,q2⟩:=mem_app hvc;have q1:=bLe'_prop q1;have q2:=bLe'_prop q2;have q3:=bLe'_prop q3;have q4:=bLe'_prop q4;have q6:=low_ok q6;simp only [den_getD,E.den]at q1 q2 q3 q4 q6;have hc:c=c/te.size*te.size:=by
      have:=Nat.div_add_mod c te.size;rw [hmod,Nat.add_zero,Nat.mul_comm]at this;exact this.symm
     have e1:(SV.ptr b c).val ρ= .pointer (some ⟨ρ.bv.getD b 0,c/te.size*te.size,none⟩):=by
      rw [←hc];rfl
     have hrun:=run_slice_arr (P:=P) (w:=w) hT htt hk hte ⟨ρ.bv.getD b 0,c/te.size*te.size,none⟩ hl hh hm hx q1 q2
      (fun x hx=>by rw [hx]at q3 q4;simp only [Option.getD_some]at q3 q4;exact⟨q3,q4⟩) (fun hx=>by rw [hx]at q3;simp only [Option.getD_none]at q3;exact q3)
     rw [e1,hrun];congr 1;have hmm:subSlice te.size (.slice (some ⟨ρ.bv.getD b 0,c/te.size*te.size,none⟩) n n) ((l.map fun e:E=>e.den ρ 0).getD 0).toNat
       ((h.map fun e:E=>e.den ρ 0).getD (n:Int)).toNat ((m.map fun e:E=>e.den ρ 0).map Int.toNat)=
       subSlice te.size (.slice (some ⟨ρ.bv.getD b 0,c/te.size*te.size,none⟩) n n) ((l.map fun e:E=>e.den ρ 0).getD 0).toNat
       ((h.map fun e:E=>e.den ρ 0).getD (n:Int)).toNat (some ((m.map fun e:E=>e.den ρ 0).getD (n:Int)).toNat):=by
      cases m<;>simp [subSlice]
     rw [hmm,sub_row _ _ _ _ _ _ _ _ q1 q2 q3 q6];simp only [SV.val,eAdd_den,eSub_den,den_getD,E.den];congr 4;generalize c/te.size=q;omega
    ·cases hs
   ·cases hs
  ·cases hs
end
end Go.RX
