/- slices.Insert of one more key, where there is room: its cells by a table of values. · A group's member, plainly: what it holds, what waits, what it answers. · A group's keys in memory: rows of what is held, of what waits. · slices.Insert of one more key, whatever room there is; where a key stands (find). -/
import Derived.Test.YtfnaoeleljhmhaaGreatGbF
import Derived.Lib.Overlaps

namespace Go.RX
open Go Go.RX Go.Proofs
theorem Owns.first{h h':HP}{r:List HP}{w:World}(ho:Owns (h::r) w)(hw:h'.wr=true→h.wr=true)(hp: ∀S,h.p w S→∃S':Nat→Prop,(∀k,S' k→S k)∧h'.p w S'):Owns (h'::r) w:=by
 obtain⟨S,hS⟩:=ho;obtain⟨S',h1,h2⟩:=hp _ (hS.at_ 0 h rfl).1;exact Owns.weaken (a:=[h]) (b:=r) hS 0 h h' rfl hw S' h1 h2
theorem Ent.see{a:List HP}(i:Nat){t s n:Nat}{v:Value}{cs:List Value}(h:a[i]? =some (sliHP true t s v n cs)):Ent a (a.set i (sliHP false t s v n cs)):=
 Ent.put i _ _ h (fun h=>by cases h) fun _ _ hp=>⟨_,fun _ hk=>hk.1,sli_look hp⟩
theorem run_overlaps_none{P:Program}(w:World)(tS tR e:TypeId)(ht:P.underlying tS=some (.slice e))(size:Nat)(hz: ∀w,(Go.sizeOf e).run P w= .ok size w)(a:Addr)(la ca lb cb:Nat):
  (Extern.SlicesOverlaps.overlaps #[tS,tS] #[tR] #[.slice (some a) la ca,.slice none lb cb]).run P w= .ok (.bool false) w:=by
 change Sem.run P (α:=Value) (do
  let some t:=(#[tS,tS]:Array TypeId)[0]? | stuck "slices.overlaps: no parameter types"
  let .slice elem←underlying t | stuck "slices.overlaps: slice type expected"
  let _←Go.sizeOf elem
  pure (Value.bool false)) w=_
 simp [run_underlying ht,hz]
theorem tab_colV(w:Nat)(f:Nat→Value): ∀n:Nat,tabL n [colV w f]=(List.range (n*w)).map f
 | 0=>by simp [tabL]
 | n+1=>by
  have ih:=tab_colV w f n;unfold tabL at ih ⊢;rw [List.range_succ,List.flatMap_append,ih,Nat.add_mul,Nat.one_mul,List.range_add,List.map_append];simp [colV]
end Go.RX
namespace Go.RX.Gb
open Go Go.RX Go.Proofs
theorem over_meets{v0 v1:V1}{N:Nat}{T0 T1:List Value}{y:Value}(hN:0<N)
  (hy: ∃a lb cb,y= .slice a lb cb∧∀ad,a=some ad→∀g o m c,v0.v= .slice (some ⟨g,o,none⟩) m c→ad.block=g):
  MeetsE Tryz.prog 142 [v1.v,y] [sliHP true 144 23 v1.v 1 T1,sliHP true 144 23 v0.v N T0]
   fun r hs=>r= .bool false∧hs=[sliHP true 144 23 v1.v 1 T1,sliHP true 144 23 v0.v N T0]:=by
 intro w Fs ho;refine⟨.bool false,_,w,?_,⟨rfl,rfl⟩,ho,Same.refl w⟩;rw [run_callFunc_extern Tryz.func142 (by kernel_rfl) (by kernel_rfl) (by kernel_rfl) (e:=Extern.SlicesOverlaps.overlaps #[138,138] #[4]) (by kernel_rfl)];have hu:Tryz.prog.underlying 138=some (.slice 144):=by kernel_rfl
 have hz: ∀w,(Go.sizeOf 144).run Tryz.prog w= .ok 23 w:=fun w=>((tlook_spec okT (t:=144) rfl).2).sizeOf w
 obtain⟨S,hS⟩:=ho;obtain⟨a1,c1⟩:=(hS.at_ 0 _ rfl).1;obtain⟨a0,c0⟩:=(hS.at_ 1 _ rfl).1;simp only [if_true]at a1 a0;obtain⟨l1,⟨_,h⟩ | ⟨g1,o1,k1,u1,e1,⟨t1,z1,p1,q1⟩,n1,m1,r1,x1⟩⟩:=a1
 ·cases h
 obtain⟨l0,⟨_,h⟩ | ⟨g0,o0,k0,u0,e0,⟨t0,z0,p0,q0⟩,n0,m0,r0,x0⟩⟩:=a0
 ·omega
 obtain⟨a,lb,cb,rfl,hy⟩:=hy;have f1:z1=(0,0):=q1.1.elim id fun h=>by cases h.1
 rw [e1];have key:(Extern.SlicesOverlaps.overlaps #[138,138] #[4] #[.slice (some ⟨g1,o1,none⟩) 1 k1,.slice a lb cb]).run Tryz.prog w= .ok (.bool false) w:=by
  cases a with
  | none=>exact run_overlaps_none w 138 4 144 hu 23 hz _ _ _ _ _
  | some ad=>
   have hb:=hy ad rfl g0 o0 N k0 e0;have hne:g1≠g0:=fun h=>hS.apart 0 1 _ _ (by omega) rfl rfl (.inl rfl) g1 ((c1 g1).2 ⟨by rw [e1];rfl,.inl rfl⟩) ((c0 g1).2 ⟨by rw [e0,h];rfl,.inl rfl⟩)
   refine Lib.run_overlaps_apart w 138 4 144 hu 23 hz ⟨g1,o1,none⟩ ad 1 k1 lb cb (by rw [hb];exact hne) t1 t0 u1.size u0.size (by simp [World.shape?,p1]) (by rw [hb];simp [World.shape?,p0]) ?_ (by simp [World.frozen?,p1,f1]) (by simp [World.frozen?,p1,f1]);intro h;have:=congrArg List.length x0;rw [List.length_take,List.length_drop,Array.length_toList,h,l0]at this;omega
 rw [show([Value.slice (some ⟨g1,o1,none⟩) 1 k1,Value.slice a lb cb].toArray)= #[.slice (some ⟨g1,o1,none⟩) 1 k1,.slice a lb cb]from rfl,key];rfl
theorem insP_meets(g o n N i:Nat)(hv:Option Unit)(vx:V1)(A xs:List Value)(v0:V1)(hv0:v0.v= .slice (hv.map fun _=>⟨g,o,none⟩) N N)(hn:n≤N)(hi:i≤n)(hr:i=n∨n+1≤N)
  (hA:A.length=N*23) (h1: ∀u∈A,u.oneCell'=true) (hx:xs.length=23) (hx1: ∀u∈xs,u.oneCell'=true) (hb:(n+1)*72≤140737488355328):
  Meets Tryz.prog 99 [subSlice 23 v0.v 0 n (some N),.int .i64 (i:Int),vx.v] [sliHP true 144 23 v0.v N A,sliHP true 144 23 vx.v 1 xs]
   fun r hs=> ∃v':V1,r=v'.v∧hs=[sliHP true 144 23 v'.v (n+1) (A.take (i*23)++xs++(A.take (n*23)).drop (i*23))]:=by
 have hall: ∀u∈A++xs,u.oneCell'=true:=fun u hu=>(List.mem_append.1 hu).elim (h1 u) (hx1 u)
 let V:Nat→V1:=fun j=>if h:j<(A++xs).length then⟨(A++xs)[j],hall _ (List.getElem_mem h)⟩else V1.nil
 have hV: ∀j,j<(A++xs).length→some (V j).v=(A++xs)[j]? :=fun j h=>by simp only [V,dif_pos h,List.getElem?_eq_getElem h]
 have hL:(A++xs).length=N*23+23:=by rw [List.length_append,hA,hx]
 have tA: ∀(m:Nat) (B:Nat→Int) (cs:List Value),cs.length=m*23→(∀j,j<m*23→∃k:Nat,B j=k∧k<N*23+23∧cs[j]? =(A++xs)[k]?)→tabL m [colX 23 V B]=cs:=by
  intro m B cs hl hB;show tabL m [colV 23 fun j=>(V (B j).toNat).v]=cs;rw [tab_colV];apply List.ext_getElem?;intro j;by_cases hj:j<m*23
  ·obtain⟨k,e1,e2,e3⟩:=hB j hj;rw [List.getElem?_map,List.getElem?_range hj,e3,←hV k (by omega)];simp [e1]
  ·rw [List.getElem?_eq_none (by simp;omega),List.getElem?_eq_none (by omega)]
 have e0:tabL N [colX 23 V fun j=>(j:Int)]=A:=tA _ _ _ hA fun j hj=>⟨j,rfl,by omega,by rw [List.getElem?_append_left (by omega)]⟩
 have e1:tabL 1 [colX 23 V fun j=>((N*23+j:Nat):Int)]=xs:=tA _ _ _ (by omega) fun j hj=>⟨N*23+j,rfl,by omega,by rw [List.getElem?_append_right (by omega),hA];congr 1;omega⟩
 have hres:(A.take (i*23)++xs++(A.take (n*23)).drop (i*23)).length=(n+1)*23:=by
  simp only [List.length_append,List.length_take,List.length_drop,hA,hx];have a1:i*23≤n*23:=Nat.mul_le_mul_right _ hi;have a2:n*23≤N*23:=Nat.mul_le_mul_right _ hn;omega
 have hat: ∀j,j<(n+1)*23→(A.take (i*23)++xs++(A.take (n*23)).drop (i*23))[j]? =
   if j<i*23 then A[j]? else if j<i*23+23 then xs[j - i*23]? else A[j - 23]? :=by
  intro j hj;have a1:i*23≤n*23:=Nat.mul_le_mul_right _ hi;have a2:n*23≤N*23:=Nat.mul_le_mul_right _ hn;have hl1:(A.take (i*23)).length=i*23:=by rw [List.length_take,hA];omega
  split
  ·rename_i h;rw [List.append_assoc,List.getElem?_append_left (by omega),List.getElem?_take_of_lt h]
  ·split
   ·rename_i h h2;rw [List.append_assoc,List.getElem?_append_right (by omega),hl1,List.getElem?_append_left (by omega)]
   ·rename_i h h2;rw [List.getElem?_append_right (by rw [List.length_append,hl1,hx];omega),List.length_append,hl1,hx,List.getElem?_drop,List.getElem?_take_of_lt (by omega)];congr 1;omega
 have base:=mt_insP (fun r hs=> ∃v':V1,r=v'.v∧∃hs',Ent hs hs'∧hs'=[sliHP true 144 23 v'.v (n+1) (A.take (i*23)++xs++(A.take (n*23)).drop (i*23))]) (n:Int) (i:Int) (N:Int) (fun j=>(j:Int)) (fun j=>((N*23+j:Nat):Int)) v0 vx V;simp only [Int.toNat_natCast,e0,e1]at base;refine(base ?_).post fun r hs ⟨v',h1,hs',h2,h3⟩=>⟨hs',h2,v',h1,h3⟩
 have a1:i*23≤n*23:=Nat.mul_le_mul_right _ hi;have a2:n*23≤N*23:=Nat.mul_le_mul_right _ hn;unfold st_insP
 iterate 5 refine⟨by omega,fun _=>?_⟩
 refine⟨fun hin=>?_,fun hin=>?_⟩
 ·refine⟨by omega,fun _ v2=>⟨v2,rfl,_,Ent.sub (List.Sublist.cons_cons _ (List.nil_sublist _)),?_⟩⟩;have hin:i=n:=by omega
  subst hin;rw [show((i:Int)+1).toNat=i+1 by omega];congr 2;refine(tA (i+1) _ _ hres fun j hj=>?_);rw [hat j hj];simp only [splF];rw [show((i:Int)*23).toNat=i*23 by omega];by_cases hc:i*23≤j∧j<i*23+23
  ·rw [if_pos hc];refine⟨_,rfl,by omega,?_⟩;rw [if_neg (by omega),if_pos (by omega),List.getElem?_append_right (by omega),hA];congr 1;omega
  ·rw [if_neg hc];refine⟨_,rfl,by omega,?_⟩;rw [if_pos (by omega),List.getElem?_append_left (by omega)]
 ·iterate 3 refine⟨by omega,fun _=>?_⟩
  refine⟨fun hlt=>absurd hlt (by omega),fun _=>?_⟩
  iterate 6 refine⟨by omega,fun _=>?_⟩
  refine⟨_,over_meets (by omega) ?_,fun x hs hq=>?_⟩
  ·rw [hv0];refine⟨_,_,_,rfl,?_⟩;intro ad had g' o' m c he;cases hv with
   | none=>simp at he
   | some u=>
    simp only [Option.map_some,Value.slice.injEq,Option.some.injEq,Addr.mk.injEq,and_true]at he;obtain⟨⟨rfl,_⟩,_⟩:=he;have hadd: ∀(x:Addr) k,(x.add k).block=x.block:=fun x k=>by unfold Addr.add;split<;>rfl
    simp only [Option.map_some]at had
    repeat' split at had
    all_goals simp only [Option.map_some,Option.some.injEq]at had
    all_goals rw [←had]
    all_goals simp only [hadd]
  ·obtain⟨rfl,rfl⟩:=hq;refine⟨rfl,rfl,by omega,fun _=>⟨by omega,fun _=>⟨by omega,fun _=>⟨by omega,fun _=>?_⟩⟩⟩⟩;have m1:iop .imin .i64 ((n:Int)+1 - i) ((n:Int)+1 - (i+1))=(n:Int) - i:=by
    simp only [iop];omega
   have m2:iop .imin .i64 1 ((n:Int)+1 - i)=1:=by
    simp only [iop];omega
   have hrv:subSlice 23 (subSlice 23 v0.v 0 (n:Int).toNat (some (N:Int).toNat)) 0 ((n:Int)+1).toNat none=subSlice 23 v0.v 0 (n+1) none:=by
    rw [hv0];have had: ∀x:Addr,x.add (0*23)=x:=fun x=>by simp [Addr.add]
    have hz: ∀x:Option Addr,x.map (fun y=>y.add (0*23))=x:=fun x=>by cases x<;>simp [had]
    simp only [subSlice,Int.toNat_natCast,Option.getD_some,Option.getD_none,hz,ite_self,Nat.sub_zero];rw [show((n:Int)+1).toNat=n+1 by omega]
   refine⟨⟨_,subSlice_one 23 v0.v 0 (n+1) none⟩,hrv,_,Ent.trans (Ent.put 0 _ (sliHP true 144 23 (subSlice 23 v0.v 0 (n+1) none) (n+1) _) rfl (fun _=>rfl) fun w S hp=>⟨S,fun _ h=>h,sli_cut hp (by omega)⟩) (Ent.sub (List.Sublist.cons_cons _ (List.nil_sublist _))),?_⟩;congr 2;rw [m1,m2];rw [show∀B:Nat→Int,tabL (N:Int).toNat [colX 23 V B]=(List.range (N*23)).map fun j=>(V (B j).toNat).v from fun B=>by rw [Int.toNat_natCast];exact tab_colV 23 (fun j=>(V (B j).toNat).v) N];apply List.ext_getElem?;intro j;by_cases hj:j<(n+1)*23
   ·have a3:(n+1)*23≤N*23:=Nat.mul_le_mul_right _ (by omega);rw [List.getElem?_take_of_lt hj,List.getElem?_map,List.getElem?_range (by omega),hat j hj,Option.map_some];simp only [splF,shiftF];rw [show((i:Int)*23).toNat=i*23 by omega,show(((i:Int)+1)*23).toNat=i*23+23 by omega,show(((n:Int) - i)*23).toNat=n*23 - i*23 by omega,show((1:Int)*23).toNat=23 by rfl];by_cases h1:j<i*23
    ·rw [if_pos h1,if_neg (by omega),if_neg (by omega),Int.toNat_natCast,hV _ (by omega),List.getElem?_append_left (by omega)]
    ·rw [if_neg h1];by_cases h2:j<i*23+23
     ·rw [if_pos h2,if_pos (by omega),Int.toNat_natCast,hV _ (by omega),List.getElem?_append_right (by omega),hA];congr 1;omega
     ·rw [if_neg h2,if_neg (by omega),if_pos (by omega),Int.toNat_natCast,hV _ (by omega),List.getElem?_append_left (by omega)];congr 1;omega
   ·rw [List.getElem?_eq_none (by rw [List.length_take];omega),List.getElem?_eq_none (by rw [hres];omega)]
end Go.RX.Gb

namespace Go.Gp
structure Di where
 g:List Int
 ep:Int
 sa:Int
 sd:Int
 kid:Int
 key:Int
 deriving DecidableEq,Inhabited
structure He where
 d:Di
 til:Int
 ends:Bool
 deriving DecidableEq,Inhabited
def low(l:List He)(k:Int):Nat:=(l.takeWhile fun h=>decide (h.d.kid<k)).length
def put(l:List He)(i:Nat)(e:He):List He:=l.take i++e::l.drop i
def hold(l:List He)(d:Di):List He:=put l (low l d.kid) ⟨d,0,false⟩
def tick(l:List He)(now:Int):List He:=l.filter fun h=> !(h.ends&&decide (h.til≤now))
def Rise(l:List He):Prop:=l.Pairwise fun a b=>a.d.kid<b.d.kid
def holds(l:List He)(k:Int):Bool:=l.any fun h=>h.d.kid==k
theorem low_le(l:List He)(k:Int):low l k≤l.length:=by
 unfold low;have:=List.takeWhile_sublist (fun h:He=>decide (h.d.kid<k)) (l:=l);exact this.length_le
theorem low_of{l:List He}{k:Int}{i:Nat}(hi:i≤l.length)(h1: ∀j,j<i→∀h:j<l.length,l[j].d.kid<k)(h2: ∀h:i<l.length,k≤l[i].d.kid):low l k=i:=by
 unfold low
 induction l generalizing i with
 | nil=>simp at hi;simp [hi]
 | cons a r ih=>
  cases i with
  | zero=>
   have:=h2 (by simp);simp only [List.getElem_cons_zero]at this;rw [List.takeWhile_cons_of_neg (by simpa using this)];rfl
  | succ i=>
   have h0:=h1 0 (by omega) (by simp);simp only [List.getElem_cons_zero]at h0;rw [List.takeWhile_cons_of_pos (by simpa using h0),List.length_cons];congr 1;refine ih (by simpa using hi) (fun j hj h=>?_) (fun h=>?_)
   ·have:=h1 (j+1) (by omega) (by simpa using h);simpa using this
   ·have:=h2 (by simpa using h);simpa using this
theorem rise_lt{l:List He}(h:Rise l){i j:Nat}(hij:i<j)(hj:j<l.length):l[i].d.kid<l[j].d.kid:=
 List.pairwise_iff_getElem.1 h i j (by omega) hj hij
theorem rise_le{l:List He}(h:Rise l){i j:Nat}(hij:i≤j)(hj:j<l.length):l[i].d.kid≤l[j].d.kid:=by
 rcases Nat.lt_or_ge i j with h1 | h1
 ·exact Int.le_of_lt (rise_lt h h1 hj)
 ·have:i=j:=by omega
  subst this;exact Int.le_refl _
theorem holds_at{l:List He}(hr:Rise l){k:Int}:holds l k=true↔∃h:low l k<l.length,l[low l k].d.kid=k:=by
 unfold holds;rw [List.any_eq_true];constructor
 ·rintro ⟨x,hx,hk⟩;rw [beq_iff_eq]at hk;obtain⟨i,hi,rfl⟩:=List.getElem_of_mem hx;have:low l k=i:=low_of (by omega) (fun j hj h=>by rw [←hk];exact rise_lt hr hj hi) (fun _=>by rw [hk];exact Int.le_refl _);exact⟨by omega,by simp only [this];exact hk⟩
 ·rintro ⟨h,hk⟩;exact⟨_,List.getElem_mem h,by simpa using hk⟩
def kidV(ep sa sd:Int):Int:=(ep*32+sa*4+sd)%18446744073709551616
def mayD(d:Di):Bool:=decide (d.sa<8∧d.sd<4∧1≤d.ep∧d.ep≤1099511627776∧d.kid=kidV d.ep d.sa d.sd)
def devLt(a b:Int×Int):Bool:=decide (a.1<b.1∨a.1=b.1∧a.2<b.2)
def mayR(ep:Int)(mem:List (Int×Int)):Bool:=decide (1≤ep∧ep≤1099511627776∧mem.length≤32)&&mem.all (fun p=>decide (p.1<8∧p.2<4))&&(List.range (mem.length - 1)).all fun i=>devLt (mem.getD i (0,0)) (mem.getD (i+1) (0,0))
structure Me where
 sf:Int×Int
 so:Bool
 g:List Int
 ep:Int
 mem:List (Int×Int)
 held:List He
 wait:List Di
def waits(l:List Di)(d:Di):Int×List Di:=
 match l.find? fun w=>decide (w=d∨w.kid=d.kid)with
 | some w=>(if w=d then 0 else 6,l)
 | none=>if 64≤l.length then(7,l)else(0,l++[d])
def keyOf(l:List He)(s:Int×Int)(ep:Int):Option Int:=(l.find? fun h=>decide ((h.d.sa,h.d.sd)=s∧h.d.ep=ep)).map (·.d.key)
def take(m:Me)(d:Di):Int×List He×List Di:=
 if mayD d=false∨(d.sa,d.sd)=m.sf∨m.so=true∧d.g≠m.g then(2,m.held,m.wait)else
 if m.so=false∨m.ep<d.ep then((waits m.wait d).1,m.held,(waits m.wait d).2)else
 if d.ep<m.ep then(241,m.held,m.wait)else
 if m.sf ∉ m.mem∨(d.sa,d.sd) ∉ m.mem then(240,m.held,m.wait)else
 if holds m.held d.kid then(if(m.held.getD (low m.held d.kid) default).d.key=d.key then 0 else 6,m.held,m.wait)else
 (0,hold m.held d,m.wait)
def tilOf(now:Int):Int:=(now+(if 100≤(18446744073709551615 - now)%18446744073709551616 then 100 else(18446744073709551615 - now)%18446744073709551616))%18446744073709551616
def fade(l:List He)(now:Int):List He:=l.map fun h=>if h.ends then h else {h with ends:=true,til:=tilOf now}
def retake(g:List Int)(ep:Int)(m:Me)(d:Di):Me:=if d.g=g∧ep≤d.ep then {m with held:=(take m d).2.1,wait:=(take m d).2.2}else m
def ownD(m:Me)(g:List Int)(ep key:Int):Di:=⟨g,ep,m.sf.1,m.sf.2,kidV ep m.sf.1 m.sf.2,key⟩
def into(m:Me)(g:List Int)(ep:Int)(mem:List (Int×Int))(now key:Int):Me:=
 {m with so:=true,g:=g,ep:=ep,mem:=mem,held:=hold (tick (fade m.held now) now) (ownD m g ep key),wait:=[]}
def enter(m:Me)(g:List Int)(ep:Int)(mem:List (Int×Int))(now key:Int):Int×Me×List (Int×Int)×Bool:=
 if mayR ep mem=false∨m.so=true∧g≠m.g then(2,m,[],false)else
 if m.so=true∧ep≤m.ep then(5,m,[],false)else
 if m.sf ∉ mem then(0,{m with so:=true,g:=g,ep:=ep,mem:=mem,held:=[],wait:=[]},[],false)else
 (0,m.wait.foldl (retake g ep) (into m g ep mem now key),mem.filter (fun p=>decide (p≠m.sf)),true)
end Go.Gp

namespace Go.RX.Gb
open Go Go.RX Go.Proofs Go.Gp
abbrev tmV(k:Int):Value:= .string ⟨(sDec k).toArray⟩
def diC(d:Di):List Value:=segCells .u8 16 (fun i=>d.g.getD i 0)++[.int .u64 d.ep,.int .u8 d.sa,.int .u8 d.sd,.int .u64 d.kid,tmV d.key]
def heC(e:He):List Value:=diC e.d++[.int .u64 e.til,.bool e.ends]
def heldHP(md:Bool)(v:V1)(l:List He):HP:=sliHP md 144 23 v.v l.length (l.flatMap heC)
def waitHP(md:Bool)(v:V1)(l:List Di):HP:=sliHP md 51 21 v.v l.length (l.flatMap diC)
theorem diC_len(d:Di):(diC d).length=21:=by simp [diC,segCells_length]
theorem heC_len(e:He):(heC e).length=23:=by simp [heC,diC_len]
theorem diC_one(d:Di): ∀u∈diC d,u.oneCell'=true:=by
 intro u hu;rw [diC,List.mem_append]at hu;rcases hu with hu | hu
 ·obtain⟨_,_,rfl⟩:=List.mem_map.1 hu;rfl
 ·simp only [List.mem_cons,List.not_mem_nil,or_false]at hu;rcases hu with rfl | rfl | rfl | rfl | rfl<;>rfl
theorem heC_one(e:He): ∀u∈heC e,u.oneCell'=true:=by
 intro u hu;rw [heC,List.mem_append]at hu;rcases hu with hu | hu
 ·exact diC_one _ u hu
 ·simp only [List.mem_cons,List.not_mem_nil,or_false]at hu;rcases hu with rfl | rfl<;>rfl
theorem flat_len(l:List He):(l.flatMap heC).length=l.length*23:=by
 induction l with
 | nil=>rfl
 | cons x r ih=>rw [List.flatMap_cons,List.length_append,ih,heC_len,List.length_cons];omega
theorem flat_take(l:List He): ∀i,i≤l.length→(l.flatMap heC).take (i*23)=(l.take i).flatMap heC∧(l.flatMap heC).drop (i*23)=(l.drop i).flatMap heC:=by
 intro i hi;have h:=flat_len (l.take i);rw [List.length_take,Nat.min_eq_left hi]at h;have e:l.flatMap heC=(l.take i).flatMap heC++(l.drop i).flatMap heC:=by rw [←List.flatMap_append,List.take_append_drop]
 rw [e,←h];exact⟨List.take_left,List.drop_left⟩
theorem flat_put(l:List He)(e:He)(i:Nat)(hi:i≤l.length):(put l i e).flatMap heC=(l.flatMap heC).take (i*23)++heC e++(l.flatMap heC).drop (i*23):=by
 obtain⟨h1,h2⟩:=flat_take l i hi;rw [h1,h2,put,List.flatMap_append,List.flatMap_cons,List.append_assoc]
theorem put_len(l:List He)(e:He)(i:Nat)(hi:i≤l.length):(put l i e).length=l.length+1:=by simp [put];omega
def DiIs(A B C D E F:Nat→Int)(j:Nat)(d:Di):Prop:=(∀i,i<16→A (j*16+i)=d.g.getD i 0)∧B j=d.ep∧C j=d.sa∧D j=d.sd∧E j=d.kid∧F j=d.key
def HeIs(A B C D E F G H:Nat→Int)(j:Nat)(e:He):Prop:=DiIs A B C D E F j e.d∧G j=e.til∧(!(H j==0))=e.ends
theorem flat_range{α β:Type}(l:List α)(f:α→List β):l.flatMap f=(List.range l.length).flatMap fun i=>(l[i]?).elim [] f:=by
 rw [List.flatMap_def,List.flatMap_def];congr 1;apply List.ext_getElem (by simp);intro i h1 h2;simp only [List.length_map]at h1;simp [h1]
theorem di_row{A B C D E F:Nat→Int}{j:Nat}{d:Di}(h:DiIs A B C D E F j d):colI .u8 16 A j++(colI .u64 1 B j++(colI .u8 1 C j++(colI .u8 1 D j++(colI .u64 1 E j++colS 1 F j))))=diC d:=by
 obtain⟨h1,h2,h3,h4,h5,h6⟩:=h;simp only [colI,colS,colV,segCells,diC,List.range_one,List.map_cons,List.map_nil,Nat.mul_one,Nat.add_zero,h2,h3,h4,h5,h6,List.cons_append,List.nil_append];congr 1;refine List.map_congr_left fun i hi=>?_
 rw [h1 i (List.mem_range.1 hi)]
theorem tab_held{A B C D E F G H:Nat→Int}{n:Nat}{l:List He}(hn:n=l.length)(h: ∀j (hj:j<l.length),HeIs A B C D E F G H j l[j]):
  tabL n [colI .u8 16 A,colI .u64 1 B,colI .u8 1 C,colI .u8 1 D,colI .u64 1 E,colS 1 F,colI .u64 1 G,colB 1 H]=l.flatMap heC:=by
 subst hn;rw [flat_range];unfold tabL;rw [List.flatMap_def,List.flatMap_def];congr 1;refine List.map_congr_left fun j hj=>?_
 have hj:=List.mem_range.1 hj;obtain⟨h1,h2,h3⟩:=h j hj;rw [List.getElem?_eq_getElem hj];simp only [Option.elim,heC,List.flatMap_cons,List.flatMap_nil,List.append_nil,←di_row h1,List.append_assoc];simp [colI,colB,segCells,h2,h3]
theorem tab_wait{A B C D E F:Nat→Int}{n:Nat}{l:List Di}(hn:n=l.length)(h: ∀j (hj:j<l.length),DiIs A B C D E F j l[j]):
  tabL n [colI .u8 16 A,colI .u64 1 B,colI .u8 1 C,colI .u8 1 D,colI .u64 1 E,colS 1 F]=l.flatMap diC:=by
 subst hn;rw [flat_range];unfold tabL;rw [List.flatMap_def,List.flatMap_def];congr 1;refine List.map_congr_left fun j hj=>?_
 have hj:=List.mem_range.1 hj;rw [List.getElem?_eq_getElem hj];simp only [Option.elim,List.flatMap_cons,List.flatMap_nil,List.append_nil,←di_row (h j hj)]
def gF(l:List Di):Nat→Int:=fun m=>(l[m/16]?).elim 0 fun d=>d.g.getD (m%16) 0
def fF(l:List Di)(s:Di→Int):Nat→Int:=fun j=>(l[j]?).elim 0 s
def hF(l:List He)(s:He→Int):Nat→Int:=fun j=>(l[j]?).elim 0 s
theorem diIs_list(l:List Di)(j:Nat)(hj:j<l.length):DiIs (gF l) (fF l (·.ep)) (fF l (·.sa)) (fF l (·.sd)) (fF l (·.kid)) (fF l (·.key)) j l[j]:=by
 refine⟨fun i hi=>?_,?_,?_,?_,?_,?_⟩
 ·simp only [gF];rw [show(j*16+i)/16=j by omega,show(j*16+i)%16=i by omega,List.getElem?_eq_getElem hj];rfl
 all_goals simp only [fF,List.getElem?_eq_getElem hj,Option.elim]
theorem heIs_list(l:List He)(j:Nat)(hj:j<l.length):HeIs (gF (l.map (·.d))) (fF (l.map (·.d)) (·.ep)) (fF (l.map (·.d)) (·.sa)) (fF (l.map (·.d)) (·.sd)) (fF (l.map (·.d)) (·.kid)) (fF (l.map (·.d)) (·.key)) (hF l (·.til)) (hF l fun e=>if e.ends then 1 else 0) j l[j]:=by
 have:=diIs_list (l.map (·.d)) j (by simpa using hj);rw [List.getElem_map]at this;refine⟨this,?_,?_⟩
 ·simp only [hF,List.getElem?_eq_getElem hj,Option.elim]
 ·simp only [hF,List.getElem?_eq_getElem hj,Option.elim];cases l[j].ends<;>rfl
end Go.RX.Gb

namespace Go.RX.Gb
open Go Go.RX Go.Proofs Go.Gp
theorem ins1{A B:Nat→Int}{n i j:Nat}(z:Nat→Int)(hi:i≤n)(hj:j≤n):
  splF (splF (splF A i (n+1 - i) z) i 1 B) (i+1) (n - i) (shiftF A i) j=if j<i then A j else if j=i then B 0 else A (j - 1):=by
 simp only [splF,shiftF];by_cases h1:j<i
 ·rw [if_pos h1,if_neg (by omega),if_neg (by omega),if_neg (by omega)]
 ·rw [if_neg h1];by_cases h2:j=i
  ·rw [if_pos h2,if_neg (by omega),if_pos (by omega),show j - i=0 by omega]
  ·rw [if_neg h2,if_pos (by omega),show i+(j - (i+1))=j - 1 by omega]
theorem ins16{A B:Nat→Int}{n i j k:Nat}(z:Nat→Int)(hi:i≤n)(hj:j≤n)(hk:k<16):
  splF (splF (splF A (i*16) ((n+1 - i)*16) z) (i*16) 16 B) (i*16+16) ((n - i)*16) (shiftF A (i*16)) (j*16+k)=if j<i then A (j*16+k)else if j=i then B k else A ((j - 1)*16+k):=by
 simp only [splF,shiftF];by_cases h1:j<i
 ·rw [if_pos h1,if_neg (by omega),if_neg (by omega),if_neg (by omega)]
 ·rw [if_neg h1];by_cases h2:j=i
  ·rw [if_pos h2,if_neg (by omega),if_pos (by omega),show j*16+k - i*16=k by omega]
  ·rw [if_neg h2,if_pos (by omega),show i*16+(j*16+k - (i*16+16))=(j - 1)*16+k by omega]
theorem put_at{l:List He}{e:He}{i j:Nat}(hi:i≤l.length)(hj:j<(put l i e).length):(put l i e)[j]=if h:j<i then l[j]else if h2:j=i then e else l[j - 1]'(by rw [put_len l e i hi]at hj;omega):=by
 have hl:=put_len l e i hi;have:(put l i e)[j]? =some (if h:j<i then l[j]else if h2:j=i then e else l[j - 1]'(by omega)):=by
  unfold put;by_cases h1:j<i
  ·rw [dif_pos h1,List.getElem?_append_left (by simp;omega),List.getElem?_take_of_lt h1,List.getElem?_eq_getElem]
  ·rw [dif_neg h1,List.getElem?_append_right (by simp;omega),List.length_take,Nat.min_eq_left hi];by_cases h2:j=i
   ·rw [dif_pos h2,show j - i=0 by omega];rfl
   ·rw [dif_neg h2,show j - i=(j - 1 - i)+1 by omega,List.getElem?_cons_succ,List.getElem?_drop,show i+(j - 1 - i)=j - 1 by omega,List.getElem?_eq_getElem]
 rw [List.getElem?_eq_getElem hj]at this;exact Option.some.inj this
theorem insG_meets(v vx:V1)(l:List He)(e:He)(i:Nat)(hi:i<l.length)(hb:(l.length+1)*72≤140737488355328):
  Meets Tryz.prog 99 [subSlice 23 v.v 0 l.length (some l.length),.int .i64 (i:Int),vx.v] [heldHP false v l,heldHP false vx [e]]
   fun r hs=> ∃v':V1,r=v'.v∧hs=[heldHP true v' (put l i e)]:=by
 have base:=mt_insG (fun r hs=> ∃v':V1,r=v'.v∧∃hs',Ent hs hs'∧hs'=[heldHP true v' (put l i e)]) (l.length:Int) (i:Int)
  (gF (l.map (·.d))) (fF (l.map (·.d)) (·.ep)) (fF (l.map (·.d)) (·.sa)) (fF (l.map (·.d)) (·.sd)) (fF (l.map (·.d)) (·.kid)) (fF (l.map (·.d)) (·.key)) (hF l (·.til)) (hF l fun e=>if e.ends then 1 else 0)
  (gF ([e].map (·.d))) (fF ([e].map (·.d)) (·.ep)) (fF ([e].map (·.d)) (·.sa)) (fF ([e].map (·.d)) (·.sd)) (fF ([e].map (·.d)) (·.kid)) (fF ([e].map (·.d)) (·.key)) (hF [e] (·.til)) (hF [e] fun e=>if e.ends then 1 else 0) v vx
 rw [Int.toNat_natCast,tab_held rfl (heIs_list l),tab_held (n:=1) rfl (heIs_list [e])]at base;refine(base ?_).post fun r hs ⟨v',h1,hs',h2,h3⟩=>⟨hs',h2,v',h1,h3⟩
 have t3:iop .imin .i64 1 ((i:Int)+((l.length:Int)+1 - i) - i)=1:=by simp only [iop];omega
 have t4:iop .imin .i64 ((l.length:Int) - i) ((i:Int)+((l.length:Int)+1 - i) - (i+1))=(l.length:Int) - i:=by simp only [iop];omega
 unfold st_insG
 iterate 3 refine⟨by omega,fun _=>?_⟩
 refine⟨fun h=>absurd h (by omega),fun _=>?_⟩
 iterate 2 refine⟨by omega,fun _=>?_⟩
 refine⟨fun _=>?_,fun h=>absurd h (by omega)⟩
 iterate 4 refine⟨by omega,fun _=>?_⟩
 refine⟨by omega,fun _ v2=>?_⟩
 iterate 9 refine⟨by omega,fun _=>?_⟩
 rw [t3,t4];refine⟨v2,rfl,_,Ent.sub (List.Sublist.cons _ (List.Sublist.cons _ (List.Sublist.refl _))),?_⟩;have c:((i:Int)+((l.length:Int)+1 - i)).toNat=(put l i e).length:=by rw [put_len l e i (by omega)];omega
 rw [c];congr 2;refine tab_held rfl fun j hj=>?_
 have hj':j≤l.length:=by rw [put_len l e i (by omega)]at hj;omega
 rw [show((i:Int)*16).toNat=i*16 by omega,show(((l.length:Int)+1 - i)*16).toNat=(l.length+1 - i)*16 by omega,show((1:Int)*16).toNat=16 by rfl,show(((i:Int)+1)*16).toNat=i*16+16 by omega,show(((l.length:Int) - i)*16).toNat=(l.length - i)*16 by omega,
  Int.toNat_natCast,show((l.length:Int)+1 - i).toNat=l.length+1 - i by omega,show((1:Int)).toNat=1 by rfl,show((i:Int)+1).toNat=i+1 by omega,show((l.length:Int) - i).toNat=l.length - i by omega]
 rw [put_at (by omega) hj];have h0:=heIs_list [e] 0 (by simp);have hl:=heIs_list l;by_cases h1:j<i
 ·have:=hl j (by omega);simp only [HeIs,DiIs,ins1 _ (by omega:i≤l.length) hj',if_pos h1,dif_pos h1]at this ⊢;refine⟨⟨fun k hk=>?_,this.1.2⟩,this.2⟩;rw [ins16 _ (by omega) hj' hk,if_pos h1];exact this.1.1 k hk
 ·by_cases h2:j=i
  ·simp only [HeIs,DiIs,ins1 _ (by omega:i≤l.length) hj',if_neg h1,dif_neg h1,if_pos h2,dif_pos h2]at h0 ⊢;refine⟨⟨fun k hk=>?_,h0.1.2⟩,h0.2⟩;rw [ins16 _ (by omega) hj' hk,if_neg h1,if_pos h2];simpa using h0.1.1 k hk
  ·have:=hl (j - 1) (by omega);simp only [HeIs,DiIs,ins1 _ (by omega:i≤l.length) hj',if_neg h1,dif_neg h1,if_neg h2,dif_neg h2]at this ⊢;refine⟨⟨fun k hk=>?_,this.1.2⟩,this.2⟩;rw [ins16 _ (by omega) hj' hk,if_neg h1,if_neg h2];exact this.1.1 k hk
theorem insert_meets(v vx:V1)(l:List He)(e:He)(i:Nat)(hi:i≤l.length)(hb:(l.length+1)*72≤140737488355328):
  Meets Tryz.prog 99 [v.v,.int .i64 (i:Int),vx.v] [heldHP true v l,heldHP true vx [e]]
   fun r hs=> ∃v':V1,r=v'.v∧hs=[heldHP true v' (put l i e)]:=by
 intro w Fs ho;have ho':=ho;obtain⟨S,hS⟩:=ho;obtain⟨a0,c0⟩:=(hS.at_ 0 _ rfl).1;simp only [if_true]at a0;obtain⟨l0,hc⟩:=a0;have had: ∀x:Option Addr,x.map (fun y=>y.add (0*23))=x:=fun x=>by cases x<;>simp [Addr.add]
 have hx:[e].flatMap heC=heC e:=by simp
 have fin: ∀(N:Nat) (A:List Value),A.length=N*23→A.take (l.length*23)=l.flatMap heC→A.take (i*23)++heC e++(A.take (l.length*23)).drop (i*23)=(put l i e).flatMap heC:=by
  intro N A hA ht;rw [ht,flat_put l e i hi,←ht,List.take_take,Nat.min_eq_left (Nat.mul_le_mul_right _ hi)]
 rcases hc with⟨hv,hn⟩ | ⟨g,o,cap,cur,hv,⟨t',fz,hg,hz⟩,hnc,hcm,hcs,htk⟩
 ·have hl0:l=[]:=List.eq_nil_of_length_eq_zero hn;subst hl0;have hi0:i=0:=by simpa using hi
  subst hi0;have:=insP_meets 0 0 0 0 0 none vx [] (heC e) v hv (by omega) (by omega) (.inl rfl) rfl (by simp) (heC_len e) (heC_one e) (by omega);rw [show subSlice 23 v.v 0 0 (some 0)=v.v by rw [hv];rfl]at this;refine(this.post (fun r hs hq=>⟨hs,Ent.refl _,hq⟩)).post (fun r hs ⟨v',h1,h2⟩=>⟨hs,Ent.refl _,v',h1,?_⟩) w Fs (by simpa [heldHP,hx] using ho');rw [h2];simp [heldHP,put]
 ·have hsv: ∀c,c=cap→subSlice 23 (.slice (some ⟨g,o,none⟩) c c) 0 l.length (some cap)=v.v:=by
   intro c hcc;rw [hv,hcc];simp only [subSlice,Option.getD_some,Nat.sub_zero,had,ite_self]
  by_cases hr:i=l.length∨l.length+1≤cap
  ·have hroom:l.length+1≤cap∨i=l.length:=hr.symm
   let v0:V1:=⟨.slice (some ⟨g,o,none⟩) cap cap,rfl⟩
   have hsz:cap*23≤cur.size - o:=by
    by_cases h0:0<cap
    ·have:=hcs h0;omega
    ·rw [show cap=0 by omega];omega
   let A:List Value:=(cur.toList.drop o).take (cap*23)
   have hA:A.length=cap*23:=by simp only [A,List.length_take,List.length_drop,Array.length_toList];omega
   have hone: ∀u∈A,u.oneCell'=true:=(hz.cells (o:=o) (m:=cap*23) rfl).elim (fun h=>by cases h) id;have hAt:A.take (l.length*23)=l.flatMap heC:=by
    rw [←htk];simp only [A];rw [List.take_take,Nat.min_eq_left (Nat.mul_le_mul_right _ hnc)]
   have ho2:Owns ([sliHP true 144 23 v0.v cap A,heldHP true vx [e]]++Fs) w:=by
    refine Owns.first (r:=heldHP true vx [e]::Fs) ho' (fun _=>rfl) fun S' hp=>⟨S',fun _ h=>h,?_⟩
    obtain⟨_,hq⟩:=hp;refine⟨?_,fun k=>?_⟩
    ·simp only [if_true];exact⟨hA,.inr ⟨g,o,cap,cur,rfl,⟨t',fz,hg,hz⟩,Nat.le_refl _,hcm,hcs,rfl⟩⟩
    ·rw [hq k,hv];simp [Value.ownBlock,v0]
   have:=insP_meets g o l.length cap i (some ()) vx A (heC e) v0 rfl hnc hi hr hA hone (heC_len e) (heC_one e) hb;rw [hsv cap rfl,fin cap A hA hAt]at this;refine(this.post (fun r hs ⟨v',h1,h2⟩=>⟨hs,Ent.refl _,v',h1,?_⟩)) w Fs (by simpa [heldHP,hx] using ho2);rw [h2,heldHP,put_len l e i hi]
  ·have hcap:cap=l.length:=by omega
   have:=insG_meets v vx l e i (by omega) hb;rw [←hcap]at this;rw [show subSlice 23 v.v 0 cap (some cap)=v.v by
    rw [hv];simp only [subSlice,Option.getD_some,Nat.sub_zero,had,ite_self,hcap]]at this
   exact(this.pre (Ent.trans (Ent.see 0 rfl) (Ent.see 1 rfl))) w Fs ho'
end Go.RX.Gb
