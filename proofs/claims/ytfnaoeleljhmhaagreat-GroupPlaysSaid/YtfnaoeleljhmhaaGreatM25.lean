/- A reflective symbolic executor, part 26: the theorem. · A reflective symbolic executor, part 27: formulas that hold at sight; what a law's statement asks. · The types and functions of the seat's program, for the executor; printed by a program of ours (wip/tools/genctx2.lean). · A reflective symbolic executor, part 28: what memory may be given up for; contracts made weaker. · A reflective symbolic executor: a printed formula az a contract, argument by argument. · A reflective symbolic executor: predicates put together to one, and in another order; frames of contracts. · A reflective symbolic executor, part 32: formulas that hold at sight, with ways that meet again. · A reflective symbolic executor, part 33: formulas that hold at sight, checked branch by branch; an answer that is told. · A reflective symbolic executor: calls that look at memory alone. · A reflective symbolic executor, part 34: a call that looks at views of whatever memory bears them, and makes new memory. -/
import Derived.Test.YtfnaoeleljhmhaaGreatM24
import Derived.Below
import Derived.Test.YtfnaoeleljhmhaaGreatProg
import Derived.KernelRfl

namespace Go.RX
section
variable {P:Program} {C:Ctx} {Post:Value→List HP→Prop} {Fs:List HP} {w0:World}
theorem run_sound(hT:checkT P C.T=true)(hFT:FTOk P C.FT)(hPu:PureOk P C)(hm:P.follows .mixedOrders=true)(n:Nat):SoundC P C Post Fs w0 n∧SoundO P C Post Fs w0 n∧SoundD P C Post Fs w0 n:=by
 induction n using Nat.strongRecOn with
 | _ n ih=>exact⟨soundC_step hT (fun m hm=>(ih m hm).1) (fun m hm=>(ih m hm).2.1) (fun m hm=>(ih m hm).2.2) (soundR_step hT hFT fun m hm=>(ih m hm).1),soundO_step hT hFT hPu (fun m hm=>(ih m hm).1) (fun m hm=>(ih m hm).2.1),soundD_step hT hm (fun m hm=>(ih m hm).2.1)⟩
theorem Meets.of_run(hT:checkT P C.T=true)(hFT:FTOk P C.FT)(hm:P.follows .mixedOrders=true){f:Nat}{fd:Func}(hf:P.funcs[f]? =some fd){args:List SV}{hp:List Ck}{cnt:Cnt}{ρ:Env}(hl:Lens ρ cnt)
  (h:VC P Post (runF C f args hp cnt fd) ρ fun _=>LC.none) (hPu:PureOk P C:=by exact PureOk.none rfl):Meets P f (SV.vals ρ args) (hp.map (Ck.den ρ)) Post:=by
 intro w Fs hown;unfold runF at h;split at h
 case h_2=>exact h.elim
 rename_i c hb;split at h
 case isFalse=>exact h.elim
 rename_i hsc;simp only [Bool.and_eq_true]at hsc;have hw:HW Fs w {fn:=f,fr:=enumFrom 0 args,hp:=hp,cnt:=cnt,nt:=⟨fd.ntmps,[]⟩} ρ w:=
  ⟨hl,enum_sc args 0 hsc.1,hsc.2,rfl,fun b hb=>(by cases hb),hown,Same.refl w,rfl⟩
 have hwp:=(run_sound (Post:=Post) (Fs:=Fs) (w0:=w) hT hFT hPu hm 100000).1 none c _ _ ρ _ _ w h hw (enter_HA args fd.ntmps) ⟨fun l r fn nt fr ps x y fd hm=>(by simp at hm),rfl⟩;have key: ∀a' w',At P C Post Fs w 100000 [.top fd] ρ (fun _=>LC.none) a' w'→LeavesInM (FW none) 0 P fd a'.tmps (fun e w'=> ∃v hs,e= .returned v∧Post v hs∧Owns (hs++Fs) w'∧Same w w') a'.defers .returning w':=by
  intro a' w' ⟨m,hm,st',ρ',L',h1,h2,h3,h4,h5⟩;cases m with
  | zero=>exact h5.elim
  | succ m=>
   simp only [run]at h5;split at h5
   case h_2=>exact h5.elim
   rename_i st2 hlv;have hst2:st2.fr=st'.fr:=by
    unfold leaveSt at hlv;rw [Option.map_eq_some_iff]at hlv;obtain⟨hp',_,rfl⟩:=hlv;rfl
   split at h5
   ·rename_i v hv;refine leaveSt_sound hlv h3 h4 fun w2 hw2=>?_
    exact⟨_,resAll_sound hT hw2 (nt:=st'.nt) (by rw [hst2];exact h4) hv,_,_,rfl,h5,hw2.own,hw2.same⟩
   ·exact h5.elim
 have fin: ∀e a' w',QK P C Post Fs w 100000 [.top fd] ρ (fun _=>LC.none) e a' w'→bodyPostM (FW none) 0 P fd (fun e w'=> ∃v hs,e= .returned v∧Post v hs∧Owns (hs++Fs) w'∧Same w w') e a' w':=by
  intro e a' w' hq;obtain⟨k',hk,hat⟩:=hq;cases e with
  | normal=>cases hk;exact key a' w' hat
  | ret=>cases hk;exact key a' w' hat
  | exit id=>cases hk
  | goto l=>cases hk
  | panic l=>cases hk
  | outgrown=>cases hk
 have main:CallsIn (FW none) 0 P f (SV.vals ρ args).toArray w (fun e w'=> ∃v hs,e= .returned v∧Post v hs∧Owns (hs++Fs) w'∧Same w w'):=by
  refine callsIn_of_wp_marks hf hb trivial (wpIn_mono hwp ?_) rfl;exact fin
 have main':CallsIn Fence.wide 0 P f (SV.vals ρ args).toArray w (fun e w'=> ∃v hs,e= .returned v∧Post v hs∧Owns (hs++Fs) w'∧Same w w'):=main;exact callsIn_wide.1 main'
end
end Go.RX

namespace Go.RX
theorem FTOk.nil{P:Program}:FTOk P []:=fun x hx=>(by cases hx)
theorem FTOk.cons{P:Program}{FT:List (Nat×Func)}{f:Nat}{fd:Func}(h:P.funcs[f]? =some fd)(hn:(fd.name== "runtime.NumGoroutine")=false)(hr:FTOk P FT):FTOk P ((f,fd)::FT):=by
 intro x hx;rcases List.mem_cons.1 hx with rfl | hx
 ·exact⟨h,hn⟩
 ·exact hr x hx
theorem Meets.law{P:Program}{f:Nat}{args:List Value}{pre:List HP}(h:Meets P f args pre fun v _=>v= .bool true)(w:World)(hown:Owns (pre++[keptHP w.heap.size w]) w):
  Calls P f args.toArray w fun e w'=>e= .returned (.bool true)∧RowKit.Below w.heap.size w w':=by
 refine(h w _ hown).mono ?_;rintro e w' ⟨v,hs,rfl,rfl,⟨S,hS⟩,hsm⟩;refine⟨rfl,?_⟩;have:=(hS.at_ hs.length (keptHP w.heap.size w) (by simp)).1;exact⟨hsm.os,hsm.tape,hsm.output,hsm.size,fun k hk=>this.2 k hk⟩
end Go.RX

namespace Go.RX
open Go.Proofs
set_option maxRecDepth 100000
def tyP(n e:Nat):TI:=⟨n,.ptr e,1,8,[.nilp],[],[]⟩
def tyS(n e:Nat):TI:=⟨n,.slice e,1,24,[.nils],[],[]⟩
def tyF(n:Nat):TI:=⟨n,.func,1,8,[.nilf],[],[]⟩
def ze(k:IntKind):SV:= .int k (.lit 0)
def zg(k:IntKind)(n:Nat):SV:= .seg k n (.lit 0)
def zf:SV:= .bool (.lit false)
def TT:List TI:=[
 ⟨3,.int .i64,1,8,[ze .i64],[],[]⟩,
 ⟨4,.bool,1,1,[zf],[],[]⟩,
 ⟨5,.int .u8,1,1,[ze .u8],[],[]⟩,
 ⟨9,.str,1,16,[.str []],[],[]⟩,
 ⟨23,.struct [(5,0),(5,1)],2,2,[ze .u8,ze .u8],[(.int .u8,2)],[]⟩,
 tyS 24 40,
 ⟨27,.iface,1,16,[.nili],[],[]⟩,
 ⟨29,.int .u64,1,8,[ze .u64],[],[]⟩,
 tyP 30 141,
 ⟨33,.struct [(9,0)],1,16,[.str []],[(.str,1)],[]⟩,
 ⟨34,.int .u32,1,4,[ze .u32],[],[]⟩,
 ⟨36,.arr 16 5,16,16,[zg .u8 16],[(.int .u8,16)],[]⟩,
 ⟨38,.struct [(36,0),(29,16),(23,17),(29,19),(29,20)],21,48,[zg .u8 16,ze .u64,ze .u8,ze .u8,ze .u64,ze .u64],[(.int .u8,16),(.int .u64,1),(.int .u8,2),(.int .u64,2)],[]⟩,
 ⟨40,.struct [(5,0),(34,1),(29,2),(36,3),(29,19),(38,20),(23,41),(29,43),(29,44),(29,45)],46,120,[ze .u8,ze .u32,ze .u64,zg .u8 16,ze .u64,zg .u8 16,ze .u64,ze .u8,ze .u8,ze .u64,ze .u64,ze .u8,ze .u8,ze .u64,ze .u64,ze .u64],[(.int .u8,1),(.int .u32,1),(.int .u64,1),(.int .u8,16),(.int .u64,1),(.int .u8,16),(.int .u64,1),(.int .u8,2),(.int .u64,2),(.int .u8,2),(.int .u64,3)],[]⟩,
 tyS 41 74,
 ⟨42,.int .i64,1,8,[ze .i64],[],[]⟩,
 tyS 45 23,
 ⟨47,.struct [(36,0),(29,16),(45,17)],18,48,[zg .u8 16,ze .u64,.nils],[],[]⟩,
 ⟨51,.struct [(36,0),(29,16),(23,17),(29,19),(33,20)],21,56,[zg .u8 16,ze .u64,ze .u8,ze .u8,ze .u64,.str []],[(.int .u8,16),(.int .u64,1),(.int .u8,2),(.int .u64,1),(.str,1)],[]⟩,
 tyS 66 76,
 tyS 67 38,
 ⟨69,.struct [(23,0),(4,2),(47,3),(66,21),(67,22),(29,23)],24,112,[ze .u8,ze .u8,zf,zg .u8 16,ze .u64,.nils,.nils,.nils,ze .u64],[],[]⟩,
 ⟨74,.struct [(23,0),(51,2)],23,64,[ze .u8,ze .u8,zg .u8 16,ze .u64,ze .u8,ze .u8,ze .u64,.str []],[(.int .u8,18),(.int .u64,1),(.int .u8,2),(.int .u64,1),(.str,1)],[]⟩,
 ⟨76,.struct [(38,0),(4,21),(29,22)],23,64,[zg .u8 16,ze .u64,ze .u8,ze .u8,ze .u64,ze .u64,zf,ze .u64],[(.int .u8,16),(.int .u64,1),(.int .u8,2),(.int .u64,2),(.bool,1),(.int .u64,1)],[]⟩,
 tyS 84 89,
 tyP 85 99,
 tyS 87 33,
 ⟨89,.struct [(5,0),(5,1),(3,2),(5,3)],4,24,[ze .u8,ze .u8,ze .i64,ze .u8],[(.int .u8,2),(.int .i64,1),(.int .u8,1)],[]⟩,
 tyS 93 30,
 tyS 94 171,
 tyS 95 166,
 tyS 96 105,
 tyS 97 174,
 ⟨99,.struct [(27,0),(93,1),(47,2),(94,20),(87,21),(95,22),(96,23),(97,24)],25,208,[.nili,.nils,zg .u8 16,ze .u64,.nils,.nils,.nils,.nils,.nils,.nils],[],[]⟩,
 tyP 101 178,
 ⟨105,.struct [(29,0),(33,1)],2,24,[ze .u64,.str []],[(.int .u64,1),(.str,1)],[]⟩,
 tyF 106,
 tyP 110 194,
 tyS 111 200,
 ⟨117,.struct [(36,0),(29,16),(23,17),(29,19),(9,20)],21,56,[zg .u8 16,ze .u64,ze .u8,ze .u8,ze .u64,.str []],[(.int .u8,16),(.int .u64,1),(.int .u8,2),(.int .u64,1),(.str,1)],[]⟩,
 tyP 123 213,
 ⟨126,.int .u16,1,2,[ze .u16],[],[]⟩,
 tyS 127 5,
 ⟨135,.ptr 137,1,8,[.nilp],[],[("Fresh",254),("Hash",255),("Number",256),("Open",257),("Pair",258),("Seal",259)]⟩,
 ⟨137,.struct [(29,0)],1,8,[ze .u64],[(.int .u64,1)],[]⟩,
 tyS 138 144,
 tyS 139 51,
 ⟨141,.struct [(27,0),(23,1),(4,3),(47,4),(138,22),(139,23)],24,120,[.nili,ze .u8,ze .u8,zf,zg .u8 16,ze .u64,.nils,.nils,.nils],[],[]⟩,
 ⟨144,.struct [(51,0),(29,21),(4,22)],23,72,[zg .u8 16,ze .u64,ze .u8,ze .u8,ze .u64,.str [],ze .u64,zf],[(.int .u8,16),(.int .u64,1),(.int .u8,2),(.int .u64,1),(.str,1),(.int .u64,1),(.bool,1)],[]⟩,
 tyS 149 4,
 tyF 154,
 ⟨159,.int .u64,1,8,[ze .u64],[],[]⟩,
 tyS 166 29,
 ⟨171,.struct [(3,0),(3,1),(33,2)],3,32,[ze .i64,ze .i64,.str []],[(.int .i64,2),(.str,1)],[]⟩,
 ⟨174,.struct [(3,0),(29,1),(29,2),(29,3),(33,4),(33,5)],6,64,[ze .i64,ze .u64,ze .u64,ze .u64,.str [],.str []],[(.int .i64,1),(.int .u64,3),(.str,2)],[]⟩,
 ⟨176,.map 33 179,1,8,[.nilm],[],[]⟩,
 ⟨178,.struct [(176,0)],1,8,[.nilm],[],[]⟩,
 ⟨179,.struct [],0,0,[],[],[]⟩,
 tyF 187,
 ⟨190,.iface,1,16,[.nili],[],[]⟩,
 tyS 191 196,
 tyS 192 117,
 ⟨194,.struct [(190,0),(23,1),(4,3),(47,4),(191,22),(192,23)],24,120,[.nili,ze .u8,ze .u8,zf,zg .u8 16,ze .u64,.nils,.nils,.nils],[],[]⟩,
 ⟨196,.struct [(117,0),(29,21),(4,22)],23,72,[zg .u8 16,ze .u64,ze .u8,ze .u8,ze .u64,.str [],ze .u64,zf],[(.int .u8,16),(.int .u64,1),(.int .u8,2),(.int .u64,1),(.str,1),(.int .u64,1),(.bool,1)],[]⟩,
 ⟨200,.struct [(23,0),(117,2)],23,64,[ze .u8,ze .u8,zg .u8 16,ze .u64,ze .u8,ze .u8,ze .u64,.str []],[(.int .u8,18),(.int .u64,1),(.int .u8,2),(.int .u64,1),(.str,1)],[]⟩,
 tyF 202,
 ⟨205,.int .u8,1,1,[ze .u8],[],[]⟩,
 ⟨207,.struct [(205,0),(3,1),(3,2),(3,3),(3,4)],5,40,[ze .u8,ze .i64,ze .i64,ze .i64,ze .i64],[(.int .u8,1),(.int .i64,4)],[]⟩,
 ⟨210,.map 29 220,1,8,[.nilm],[],[]⟩,
 tyP 211 267,
 ⟨213,.struct [(110,0),(126,1),(3,2),(29,3),(211,4),(210,5)],6,48,[.nilp,ze .u16,ze .i64,ze .u64,.nilp,.nilm],[],[]⟩,
 ⟨217,.struct [(29,0),(29,1)],2,16,[ze .u64,ze .u64],[(.int .u64,2)],[]⟩,
 tyP 220 284,
 tyF 230,
 tyP 232 234,
 ⟨234,.struct [(232,0),(127,1)],2,32,[.nilp,.nils],[],[]⟩,
 tyF 241,
 tyP 300 5,
 tyS 325 3]
theorem okT:checkT Tryz.prog TT=true:=by kernel_rfl
def pairs(P:Program):List (Nat×Func):=P.funcs.toList.zipIdx.map fun x=>(x.2,x.1)
theorem FTOk.all{P:Program}(h:(P.funcs.toList.all fun f=> !(f.name== "runtime.NumGoroutine"))=true):FTOk P (pairs P):=by
 intro x hx;obtain⟨⟨f,i⟩,hy,rfl⟩:=List.mem_map.1 hx;have h2:=List.all_eq_true.1 h f (List.fst_mem_of_mem_zipIdx hy);refine⟨?_,by simpa using h2⟩;have h3:=(List.mk_mem_zipIdx_iff_getElem?).1 hy;rw [←h3];simp
noncomputable def FT:List (Nat×Func):=pairs Tryz.prog
theorem okFT:FTOk Tryz.prog FT:=FTOk.all (by kernel_rfl)
theorem okM:Tryz.prog.follows .mixedOrders=true:=by kernel_rfl
end Go.RX

namespace Go.RX
def Ent(a b:List HP):Prop:= ∀(w:World) (Fs:List HP),Owns (a++Fs) w→Owns (b++Fs) w
theorem Ent.refl(a:List HP):Ent a a:=fun _ _ h=>h
theorem Ent.trans{a b c:List HP}(h:Ent a b)(k:Ent b c):Ent a c:=fun w Fs o=>k w Fs (h w Fs o)
theorem sub_inj{α:Type}{a b:List α}(h:b.Sublist a): ∃f:Nat→Nat,(∀i j,f i=f j→i=j)∧∀(j:Nat) x,b[j]? =some x→a[f j]? =some x:=by
 induction h with
 | slnil=>exact⟨id,fun _ _ h=>h,fun _ _ h=>h⟩
 | cons x _ ih=>
  obtain⟨f,h1,h2⟩:=ih;exact⟨fun j=>f j+1,fun i j h=>h1 i j (by simpa using h),fun j y hy=>by simpa using h2 j y hy⟩
 | cons_cons x _ ih=>
  obtain⟨f,h1,h2⟩:=ih;refine⟨fun j=>match j with | 0=>0 | j+1=>f j+1,fun i j h=>?_,fun j y hy=>?_⟩
  ·cases i<;>cases j<;>simp at h ⊢
   exact h1 _ _ h
  ·cases j with
   | zero=>simpa using hy
   | succ j=>simpa using h2 j y (by simpa using hy)
theorem Owns.sub{a b:List HP}{w:World}(h:Owns a w)(hs:b.Sublist a):Owns b w:=by
 obtain⟨f,h1,h2⟩:=sub_inj hs;refine h.pick' (fun j=>some (f j)) (fun j x hx=> .inr ⟨f j,rfl,h2 j x hx⟩) ?_;intro j j' i hj hj' _ _;cases hj;simp only [Option.some.injEq]at hj';exact h1 _ _ hj'.symm
theorem Ent.sub{a b:List HP}(h:b.Sublist a):Ent a b:=fun _ _ o=>o.sub (List.Sublist.append h (List.Sublist.refl _))
theorem Ent.put{a:List HP}(i:Nat)(h0 h':HP)(hi:a[i]? =some h0)(hw:h'.wr=true→h0.wr=true)(hp: ∀w S,h0.p w S→∃S':Nat→Prop,(∀k,S' k→S k)∧h'.p w S'):Ent a (a.set i h'):=by
 intro w Fs ⟨S,hS⟩;have hlt:i<a.length:=(List.getElem?_eq_some_iff.1 hi).1;obtain⟨S',h1,h2⟩:=hp _ _ (hS.at_ i h0 (by rw [List.getElem?_append_left hlt];exact hi)).1;exact Owns.weaken hS i h0 h' hi hw S' h1 h2
theorem Meets.post{P:Program}{f:Nat}{args:List Value}{pre:List HP}{p q:Value→List HP→Prop}(h:Meets P f args pre p)(hpq: ∀v hs,p v hs→∃hs',Ent hs hs'∧q v hs'):Meets P f args pre q:=by
 intro w Fs o;refine(h w Fs o).mono ?_;rintro e w' ⟨v,hs,he,hp,ho,hs'⟩;obtain⟨hs2,h1,h2⟩:=hpq v hs hp;exact⟨v,hs2,he,h2,h1 _ _ ho,hs'⟩
theorem Meets.pre{P:Program}{f:Nat}{args:List Value}{pre pre':List HP}{p:Value→List HP→Prop}(h:Meets P f args pre' p)(he:Ent pre pre'):Meets P f args pre p:=
 fun w Fs o=>h w Fs (he _ _ o)
theorem sli_cut{w:World}{t s n k:Nat}{v:Value}{cs:List Value}{S:Nat→Prop}(h:(sliHP true t s v n cs).p w S)(hk:k≤n):
  (sliHP true t s (subSlice s v 0 k none) k (cs.take (k*s))).p w S:=by
 have hw:=SubAt.whole (ρ:=env0) (s:=s) (v:=v) (n:= .lit n) (by simpa [E.den] using sli_whole h);have hst:=hw.step ⟨.lit 0,.lit k,none⟩ (fun b hb=>by
  simp only [cutStep,eAdd]at hb;have: ∀(x y:Int),x≤y→∀b∈bLe' (.lit x) (.lit y),b.prop env0:=by
   intro x y hxy b hb;unfold bLe' at hb;split at hb
   ·cases hb
   ·simp [bLe,hxy]at hb
  rcases List.mem_append.1 hb with hb | hb
  ·rcases List.mem_append.1 hb with hb | hb
   ·exact this 0 0 (Int.le_refl _) b hb
   ·exact this 0 k (by omega) b hb
  ·exact this (0+k) n (by omega) b hb)
 have hsub:=hst.1;obtain⟨hown,hblk⟩:=h;simp only [if_true]at hown;have hx:subSlice s v (E.den env0 (.lit 0) 0).toNat (E.den env0 (.lit k) 0).toNat (Option.map (fun m=>(E.den env0 m 0).toNat) none)=subSlice s v 0 k none:=by simp [E.den]
 rw [hx]at hsub;have hln:((E.lit (n:Int)).den env0 0).toNat=n:=by simp [E.den]
 rw [←hln]at hown;obtain⟨o1,o2⟩:=ownsAt_part hsub (by simp [cutStep,eSub,E.den]) hown;rw [show((cutStep (.lit (n:Int)) ⟨.lit 0,.lit (n:Int),none⟩ ⟨.lit 0,.lit (k:Int),none⟩).1.lo.den env0 0).toNat=0 by simp [cutStep,eAdd,E.den],Nat.zero_mul,List.drop_zero]at o1;have hlk:((cutStep (.lit (n:Int)) ⟨.lit 0,.lit (n:Int),none⟩ ⟨.lit 0,.lit (k:Int),none⟩).1.len.den env0 0).toNat=k:=by simp [cutStep,eSub,E.den]
 rw [hlk]at o1;refine⟨?_,fun q=>?_⟩
 ·simp only [if_true];exact o1
 ·rw [o2,hblk q];simp
theorem sli_look{w:World}{t s n:Nat}{v:Value}{cs:List Value}{S:Nat→Prop}(h:(sliHP true t s v n cs).p w S):(sliHP false t s v n cs).p w (fun k=>S k∧0<n):=by
 obtain⟨hv,hl⟩:=sli_views h;refine⟨by simp only [Bool.false_eq_true,if_false];exact⟨hl,hv⟩,fun k=>?_⟩;show(S k∧0<n)↔_;rw [h.2 k];simp
end Go.RX

namespace Go.RX
theorem Meets.of_runE{P:Program}{C:Ctx}(hT:checkT P C.T=true)(hFT:FTOk P C.FT)(hm:P.follows .mixedOrders=true){f:Nat}{fd:Func}(hf:P.funcs[f]? =some fd){Post:Value→List HP→Prop}{args:List SV}{hp:List Ck}{cnt:Cnt}{ρ:Env}(hl:Lens ρ cnt)
  {g:F} {s:Prop} (e:runF C f args hp cnt fd=g) (hv:VC P Post g ρ (fun _=>LC.none)=s) (hs:s) (hPu:PureOk P C:=by exact PureOk.none rfl):Meets P f (SV.vals ρ args) (hp.map (Ck.den ρ)) Post:=by
 subst e;subst hv;exact Meets.of_run hT hFT hm hf hl hs hPu
end Go.RX

namespace Go.RX
theorem perm_inj{α:Type}{a b:List α}(h:a.Perm b): ∃f:Nat→Nat,(∀i j,f i=f j→i=j)∧∀(j:Nat) x,b[j]? =some x→a[f j]? =some x:=by
 induction h with
 | nil=>exact⟨id,fun _ _ h=>h,fun _ _ h=>h⟩
 | cons x _ ih=>
  obtain⟨f,h1,h2⟩:=ih;refine⟨fun j=>match j with | 0=>0 | j+1=>f j+1,fun i j h=>?_,fun j y hy=>?_⟩
  ·cases i<;>cases j<;>simp at h ⊢
   exact h1 _ _ h
  ·cases j with
   | zero=>simpa using hy
   | succ j=>simpa using h2 j y (by simpa using hy)
 | swap x y l=>
  refine⟨fun j=>match j with | 0=>1 | 1=>0 | j+2=>j+2,fun i j h=>?_,fun j z hz=>?_⟩
  ·match i,j,h with
   | 0,0,_=>rfl
   | 1,1,_=>rfl
   | 0,1,h=>simp at h
   | 1,0,h=>simp at h
   | 0,j+2,h=>simp at h
   | 1,j+2,h=>simp at h
   | i+2,0,h=>simp at h
   | i+2,1,h=>simp at h
   | i+2,j+2,h=>simpa using h
  ·match j,hz with
   | 0,hz=>simpa using hz
   | 1,hz=>simpa using hz
   | j+2,hz=>simpa using hz
 | trans _ _ ih1 ih2=>
  obtain⟨f,f1,f2⟩:=ih1;obtain⟨g,g1,g2⟩:=ih2;exact⟨fun j=>f (g j),fun i j h=>g1 _ _ (f1 _ _ h),fun j x hx=>f2 _ _ (g2 _ _ hx)⟩
theorem Owns.perm{a b:List HP}{w:World}(h:Owns a w)(hp:a.Perm b):Owns b w:=by
 obtain⟨f,h1,h2⟩:=perm_inj hp;refine h.pick' (fun j=>some (f j)) (fun j x hx=> .inr ⟨f j,rfl,h2 j x hx⟩) ?_;intro j j' i hj hj' _ _;cases hj;simp only [Option.some.injEq]at hj';exact h1 _ _ hj'.symm
theorem Ent.perm{a b:List HP}(h:a.Perm b):Ent a b:=fun _ _ o=>o.perm (h.append_right _)
theorem Ent.frame{a b:List HP}(h:Ent a b)(r:List HP):Ent (a++r) (b++r):=fun w Fs o=>by
 rw [List.append_assoc]at o ⊢;exact h w (r++Fs) o
theorem Meets.frame{P:Program}{f:Nat}{args:List Value}{pre:List HP}{post:Value→List HP→Prop}(h:Meets P f args pre post)(r:List HP):
  Meets P f args (pre++r) fun v hs=> ∃hs0,hs=hs0++r∧post v hs0:=by
 intro w Fs o;rw [List.append_assoc]at o;refine(h w (r++Fs) o).mono ?_;rintro e w' ⟨v,hs,he,hp,ho,hs'⟩;exact⟨v,hs++r,he,⟨hs,rfl,hp⟩,by rw [List.append_assoc];exact ho,hs'⟩
def HP.star(l:List HP):HP where
 wr:=true
 p w S:= ∃T,Sep l T w∧∀k,S k↔∃i,i<l.length∧T i k
 stable w w' S h hk:=by
  obtain⟨T,hT,hS⟩:=h;refine⟨T,⟨fun i x hx=>?_,hT.apart⟩,hS⟩;have hlt:i<l.length:=(List.getElem?_eq_some_iff.1 hx).1;obtain⟨hp,hb⟩:=hT.at_ i x hx;refine⟨x.stable w w' _ hp fun k hk'=>hk k ((hS k).2 ⟨i,hlt,hk'⟩),fun k hk'=>?_⟩;have:=hk k ((hS k).2 ⟨i,hlt,hk'⟩);have hsz:=hb k hk';rw [Array.getElem?_eq_getElem hsz]at this;exact(Array.getElem?_eq_some_iff.1 this).1
theorem Ent.unstar(l:List HP):Ent [HP.star l] l:=by
 intro w Fs ⟨S,hS⟩;obtain⟨⟨T,hT,hTS⟩,hb⟩:=hS.at_ 0 (HP.star l) rfl;refine⟨fun i=>if i<l.length then T i else S (i - l.length+1),⟨?_,?_⟩⟩
 ·intro i x hx;by_cases hi:i<l.length
  ·rw [List.getElem?_append_left hi]at hx;simp only [hi,if_true];exact hT.at_ i x hx
  ·rw [List.getElem?_append_right (by omega)]at hx;simp only [hi,if_false];exact hS.at_ (i - l.length+1) x (by simpa using hx)
 ·intro i j x y hne hx hy hw k;by_cases hi:i<l.length<;>by_cases hj:j<l.length
  ·rw [List.getElem?_append_left hi]at hx;rw [List.getElem?_append_left hj]at hy;simp only [hi,hj,if_true];exact hT.apart i j x y hne hx hy hw k
  ·rw [List.getElem?_append_right (by omega)]at hy;simp only [hi,hj,if_true,if_false];intro h1;exact hS.apart 0 (j - l.length+1) (HP.star l) y (by omega) rfl (by simpa using hy) (.inl rfl) k ((hTS k).2 ⟨i,hi,h1⟩)
  ·rw [List.getElem?_append_right (by omega)]at hx;simp only [hi,hj,if_true,if_false];intro h1 h2;exact hS.apart 0 (i - l.length+1) (HP.star l) x (by omega) rfl (by simpa using hx) (.inl rfl) k ((hTS k).2 ⟨j,hj,h2⟩) h1
  ·rw [List.getElem?_append_right (by omega)]at hx hy;simp only [hi,hj,if_false];exact hS.apart (i - l.length+1) (j - l.length+1) x y (by omega) (by simpa using hx) (by simpa using hy) hw k
theorem Ent.star{l:List HP}(hw: ∀h∈l,h.wr=true):Ent l [HP.star l]:=by
 intro w Fs ⟨S,hS⟩;refine⟨fun i=>if i=0 then fun k=> ∃j,j<l.length∧S j k else S (i - 1+l.length),⟨?_,?_⟩⟩
 ·intro i x hx;by_cases hi:i=0
  ·subst hi;simp at hx;subst hx;simp only [if_true];refine⟨⟨S,⟨fun i x hx=>?_,fun i j x y hne hx hy=>?_⟩,fun k=>Iff.rfl⟩,?_⟩
   ·exact hS.at_ i x (by rw [List.getElem?_append_left (List.getElem?_eq_some_iff.1 hx).1];exact hx)
   ·exact hS.apart i j x y hne (by rw [List.getElem?_append_left (List.getElem?_eq_some_iff.1 hx).1];exact hx) (by rw [List.getElem?_append_left (List.getElem?_eq_some_iff.1 hy).1];exact hy)
   ·rintro k ⟨j,hj,hk⟩;exact(hS.at_ j (l[j]'hj) (by rw [List.getElem?_append_left hj];exact List.getElem?_eq_getElem hj)).2 k hk
  ·have e:i=(i - 1)+1:=by omega
   rw [e]at hx;simp only [hi,if_false];exact hS.at_ (i - 1+l.length) x (by rw [List.getElem?_append_right (by omega),show i - 1+l.length - l.length=i - 1 by omega];simpa using hx)
 ·have key: ∀(i:Nat) (x:HP),i≠0→([HP.star l]++Fs)[i]? =some x→(l++Fs)[i - 1+l.length]? =some x:=by
   intro i x hi hx;have e:i=(i - 1)+1:=by omega
   rw [e]at hx;rw [List.getElem?_append_right (by omega),show i - 1+l.length - l.length=i - 1 by omega];simpa using hx
  have cross: ∀(j:Nat) (y:HP) (k:Nat),j≠0→([HP.star l]++Fs)[j]? =some y→(∃m,m<l.length∧S m k)→¬S (j - 1+l.length) k:=by
   rintro j y k hj hy ⟨m,hm,hk⟩;exact hS.apart m (j - 1+l.length) (l[m]'hm) y (by omega) (by rw [List.getElem?_append_left hm];exact List.getElem?_eq_getElem hm) (key j y hj hy) (.inl (hw _ (List.getElem_mem hm))) k hk
  intro i j x y hne hx hy hwr k;by_cases hi:i=0<;>by_cases hj:j=0
  ·omega
  ·simp only [hi,hj,if_true,if_false];exact cross j y k hj hy
  ·simp only [hi,hj,if_true,if_false];exact fun h1 h2=>cross i x k hi hx h2 h1
  ·simp only [hi,hj,if_false];exact hS.apart _ _ x y (by omega) (key i x hi hx) (key j y hj hy) hwr k
theorem Ent.idx'{a b:List HP}(idx:List Nat)(hnd:idx.Nodup)(h: ∀(j:Nat) x,b[j]? =some x→∃i,idx[j]? =some i∧a[i]? =some x):Ent a b:=by
 intro w Fs o;refine o.pick' (fun j=>if j<b.length then idx[j]? else some (a.length+(j - b.length))) ?_ ?_
 ·intro j x hx;right;by_cases hj:j<b.length
  ·rw [List.getElem?_append_left hj]at hx;obtain⟨i,h1,h2⟩:=h j x hx;refine⟨i,by simp only [hj,if_true,h1],?_⟩;rw [List.getElem?_append_left (List.getElem?_eq_some_iff.1 h2).1];exact h2
  ·rw [List.getElem?_append_right (by omega)]at hx;refine⟨_,by simp only [hj,if_false];rfl,?_⟩;rw [List.getElem?_append_right (by omega),Nat.add_sub_cancel_left];exact hx
 ·intro j j' i hj hj' _ _;by_cases h1:j<b.length
  ·have hx:b[j]? =some b[j]:=List.getElem?_eq_getElem h1;obtain⟨i1,q1,q2⟩:=h j _ hx;have hi1:=(List.getElem?_eq_some_iff.1 q2).1;simp only [h1,if_true,q1,Option.some.injEq]at hj;subst hj;by_cases h2:j'<b.length
   ·simp only [h2,if_true]at hj';obtain⟨l1,e1⟩:=List.getElem?_eq_some_iff.1 q1;obtain⟨l2,e2⟩:=List.getElem?_eq_some_iff.1 hj';exact(List.getElem_inj hnd).1 (e1.trans e2.symm)
   ·simp only [h2,if_false,Option.some.injEq]at hj';omega
  ·simp only [h1,if_false,Option.some.injEq]at hj;by_cases h2:j'<b.length
   ·have hx:b[j']? =some b[j']:=List.getElem?_eq_getElem h2;obtain⟨i1,q1,q2⟩:=h j' _ hx;have hi1:=(List.getElem?_eq_some_iff.1 q2).1;simp only [h2,if_true,q1,Option.some.injEq]at hj';omega
   ·simp only [h2,if_false,Option.some.injEq]at hj';omega
def HP.ex{α:Type}(F:α→HP):HP where
 wr:=true
 p w S:= ∃a,(F a).p w S
 stable w w' S h hk:=by
  obtain⟨a,ha⟩:=h;exact⟨a,(F a).stable w w' S ha hk⟩
theorem Ent.ex{α:Type}{F:α→HP}(a:α)(hw:(F a).wr=true):Ent [F a] [HP.ex F]:=by
 have:=Ent.put (a:=[F a]) 0 (F a) (HP.ex F) rfl (fun _=>hw) fun w S h=>⟨S,fun _ h=>h,⟨a,h⟩⟩
 simpa using this
theorem Meets.ex{α:Type}{F:α→HP}{P:Program}{f:Nat}{args:List Value}{R:List HP}{post:Value→List HP→Prop}(h: ∀a,Meets P f args (F a::R) post):Meets P f args (HP.ex F::R) post:=by
 intro w Fs ⟨S,hS⟩;obtain⟨⟨a,ha⟩,hb⟩:=hS.at_ 0 (HP.ex F) rfl;refine h a w Fs ⟨S,⟨fun i x hx=>?_,fun i j x y hne hx hy hw=>?_⟩⟩
 ·match i,hx with
  | 0,hx=>simp at hx;subst hx;exact⟨ha,hb⟩
  | i+1,hx=>exact hS.at_ (i+1) x (by simpa using hx)
 ·match i,j,hne,hx,hy with
  | 0,0,hne,_,_=>exact absurd rfl hne
  | 0,j+1,_,_,hy=>exact hS.apart 0 (j+1) (HP.ex F) y (by omega) rfl (by simpa using hy) (.inl rfl)
  | i+1,0,_,hx,_=>exact hS.apart (i+1) 0 x (HP.ex F) (by omega) (by simpa using hx) rfl (.inr rfl)
  | i+1,j+1,hne,hx,hy=>exact hS.apart (i+1) (j+1) x y hne (by simpa using hx) (by simpa using hy) hw
end Go.RX

namespace Go.RX
def Cnt.only(c:Cnt):Bool:=c.i==0&&c.a==0&&c.bo==0&&c.p==0&&c.r==0
end Go.RX

namespace Go.RX
def SV.same:SV→SV→Bool
 | .int k (.lit n),.int k' (.lit m)=>k==k'&&n==m
 | .bool (.lit a),.bool (.lit b)=>a==b
 | .str l,.str l'=>l==l'
 | .agg a,.agg b=>litSame (expandR a) (expandR b)
 | .tup [a,b],.tup [c,d]=>SV.same a c&&SV.same b d
 | _,_=>false
end Go.RX

namespace Go.RX
theorem Owns.dup{h:HP}{hs:List HP}{w:World}(hw:h.wr=false)(ho:Owns (h::hs) w):Owns (h::h::hs) w:=by
 obtain⟨S,hS⟩:=ho;refine⟨fun i=>S (i - 1),⟨?_,?_⟩⟩
 ·intro i x hx;cases i with
  | zero=>
   simp at hx;subst hx;exact hS.at_ 0 _ rfl
  | succ i=>exact hS.at_ i x (by simpa using hx)
 ·intro i j x y hij hx hy hwr;cases i with
  | zero=>
   cases j with
   | zero=>exact absurd rfl hij
   | succ j=>
    simp at hx;subst hx;cases j with
    | zero=>
     simp at hy;subst hy;simp [hw]at hwr
    | succ j=>exact hS.apart 0 (j+1) _ y (by omega) rfl (by simpa using hy) hwr
  | succ i=>
   cases j with
   | zero=>
    simp at hy;subst hy;cases i with
    | zero=>
     simp at hx;subst hx;simp [hw]at hwr
    | succ i=>exact hS.apart (i+1) 0 x _ (by omega) (by simpa using hx) rfl hwr
   | succ j=>exact hS.apart i j x y (by omega) (by simpa using hx) (by simpa using hy) hwr
theorem Meets.look{P:Program}{f:Nat}{args:List Value}{h:HP}{Q:Value→Prop}(hw:h.wr=false)(hm:Meets P f args [h] fun v _=>Q v):Meets P f args [h] fun v hs=>Q v∧hs=[h]:=by
 intro w Fs ho;refine(hm w (h::Fs) (Owns.dup hw ho)).mono ?_;rintro e w' ⟨v,hs,rfl,hq,ho',hsm⟩;exact⟨v,[h],rfl,⟨hq,rfl⟩,Owns.sub ho' (List.sublist_append_right _ _),hsm⟩
theorem Meets.know{P:Program}{f:Nat}{args:List Value}{pre:List HP}{p Q:Value→List HP→Prop}(h:Meets P f args pre p)(hq: ∀v hs,p v hs→∀(w:World) (Fs:List HP),Owns (hs++Fs) w→Q v hs):
  Meets P f args pre fun v hs=>p v hs∧Q v hs:=by
 intro w Fs o;refine(h w Fs o).mono ?_;rintro e w' ⟨v,hs,he,hp,ho,hs'⟩;exact⟨v,hs,he,⟨hp,hq v hs hp _ _ ho⟩,ho,hs'⟩
end Go.RX

namespace Go.RX
def Bears(B:List HP)(h:HP):Prop:=h.wr=false∧∀(w:World) (S:Nat→Nat→Prop),Sep B S w→∃S':Nat→Prop,h.p w S'∧∀k,S' k→∃i,i<B.length∧S i k
theorem Sep.mid{A B C:List HP}{S:Nat→Nat→Prop}{w:World}(h:Sep (A++B++C) S w):Sep B (fun i=>S (A.length+i)) w:=by
 have key: ∀(i:Nat) x,B[i]? =some x→(A++B++C)[A.length+i]? =some x:=by
  intro i x hx;have hl:i<B.length:=(List.getElem?_eq_some_iff.1 hx).1;rw [List.getElem?_append_left (by simp;omega),List.getElem?_append_right (by omega),Nat.add_sub_cancel_left,hx]
 exact⟨fun i x hx=>h.at_ _ x (key i x hx),fun i j x y hij hx hy hw=>h.apart _ _ x y (by omega) (key i x hx) (key j y hy) hw⟩
theorem Bears.own{t s n:Nat}{v:Value}{cs:List Value}:Bears [sliHP true t s v n cs] (sliHP false t s v n cs):=by
 refine⟨rfl,fun w S h=>?_⟩;exact⟨_,sli_look (h.at_ 0 _ rfl).1,fun k hk=>⟨0,by simp,hk.1⟩⟩
theorem Bears.mid{A B C:List HP}{h:HP}(hb:Bears B h):Bears (A++B++C) h:=by
 refine⟨hb.1,fun w S hS=>?_⟩;obtain⟨S',hp,hs⟩:=hb.2 w _ (Sep.mid hS);refine⟨S',hp,fun k hk=>?_⟩;obtain⟨i,hi,hk⟩:=hs k hk;exact⟨A.length+i,by simp;omega,hk⟩
theorem Bears.left{B C:List HP}{h:HP}(hb:Bears B h):Bears (B++C) h:=Bears.mid (A:=[]) hb
theorem Bears.right{A B:List HP}{h:HP}(hb:Bears B h):Bears (A++B) h:=by
 have:=Bears.mid (A:=A) (C:=[]) hb
 rwa [List.append_nil]at this
theorem Bears.map{B:List HP}{h h':HP}(hb:Bears B h)(hw:h'.wr=false)(hp: ∀w S,h.p w S→∃S':Nat→Prop,h'.p w S'∧∀k,S' k→S k):Bears B h':=by
 refine⟨hw,fun w S hS=>?_⟩;obtain⟨S1,h1,h2⟩:=hb.2 w S hS;obtain⟨S2,h3,h4⟩:=hp w S1 h1;exact⟨S2,h3,fun k hk=>h2 k (h4 k hk)⟩
theorem view_sub{w:World}{t s n lo hi:Nat}{mx:Option Nat}{v:Value}{cs:List Value}{S:Nat→Prop}(h:(sliHP false t s v n cs).p w S)(h1:lo≤hi)(h2:hi≤n)(h3: ∀m,mx=some m→hi≤m):
  ∃S':Nat→Prop,(sliHP false t s (subSlice s v lo hi mx) (hi - lo) ((cs.drop (lo*s)).take ((hi - lo)*s))).p w S'∧∀k,S' k→S k:=by
 obtain⟨h0,hS⟩:=h;simp only [Bool.false_eq_true,if_false]at h0;obtain⟨hlen,a,m,c,rfl,rfl,hmc,hn,hv⟩:=h0;refine⟨fun k=>(subSlice s (.slice a m c) lo hi mx).ownBlock=some k∧0<hi - lo,⟨?_,fun k=>by simp⟩,?_⟩
 ·simp only [Bool.false_eq_true,if_false];have hm3:(hi - lo)*s=hi*s - lo*s:=by rw [Nat.sub_mul]
  have hm1:hi*s≤m*s:=Nat.mul_le_mul_right s h2;have hm2:lo*s≤hi*s:=Nat.mul_le_mul_right s h1;refine⟨by rw [List.length_take,List.length_drop,hlen];omega,_,_,_,rfl,rfl,?_,?_,?_⟩
  ·cases mx with
   | none=>simp;omega
   | some x=>have:=h3 x rfl;simp;omega
  ·intro he;split at he
   ·have:=hn he;omega
   ·rw [Option.map_eq_none_iff]at he;have:=hn he;omega
  ·intro ad he;by_cases hlo:lo=hi
   ·subst hlo;refine⟨by omega,?_⟩;simp
   ·have hlt:mx.getD c≠lo:=by
     cases mx with
     | none=>simp;omega
     | some x=>have:=h3 x rfl;simp;omega
    rw [if_neg hlt,Option.map_eq_some_iff]at he;obtain⟨ad0,rfl,rfl⟩:=he;obtain⟨g1,g2⟩:=hv ad0 rfl;refine⟨fun _=>?_,fun j u hu=>?_⟩
    ·have:=g1 (by omega);unfold Addr.add;split
     ·exact this
     ·rfl
    ·rw [List.getElem?_take]at hu;split at hu
     ·rw [List.getElem?_drop]at hu;have:=g2 _ _ hu;rw [←this,addr_add_add]
     ·cases hu
 ·rintro k ⟨hk,hpos⟩;refine(hS k).2 ⟨?_,.inr (by omega)⟩;unfold subSlice at hk;simp only [Value.ownBlock]at hk ⊢;cases a with
  | none=>have:=hn rfl;omega
  | some ad=>
   have hb:(ad.add (lo*s)).block=ad.block:=by unfold Addr.add;split<;>rfl
   by_cases hc:mx.getD c=lo
   ·rw [if_pos hc]at hk;exact hk
   ·rw [if_neg hc]at hk;simp only [Option.map_some,hb]at hk;exact hk
theorem Bears.sub{B:List HP}{t s n lo hi:Nat}{mx:Option Nat}{v:Value}{cs:List Value}(hb:Bears B (sliHP false t s v n cs))(h1:lo≤hi)(h2:hi≤n)(h3: ∀m,mx=some m→hi≤m):
  Bears B (sliHP false t s (subSlice s v lo hi mx) (hi - lo) ((cs.drop (lo*s)).take ((hi - lo)*s))):=hb.map rfl fun _ _ h=>view_sub h h1 h2 h3
theorem Bears.row{b t lo n m:Nat}{wr:Bool}{cs:List Value}(h1:lo+n≤cs.length)(h2:n≤m):
  Bears [rowHP b wr cs] (sliHP false t 1 (.slice (some ⟨b,lo,none⟩) n m) n ((cs.drop lo).take n)):=by
 refine⟨rfl,fun w S h=>?_⟩;obtain⟨⟨hs,ty,fz,hb,_⟩,_⟩:=h.at_ 0 _ rfl;refine⟨fun k=>k=b∧0<n,⟨?_,fun k=>?_⟩,fun k hk=>⟨0,by simp,(hs k).2 hk.1⟩⟩
 ·simp only [Bool.false_eq_true,if_false];refine⟨by rw [List.length_take,List.length_drop];omega,_,_,_,rfl,rfl,h2,by simp,?_⟩;intro ad he;cases he;refine⟨fun _=>rfl,fun j u hu=>?_⟩;rw [List.getElem?_take]at hu;split at hu
  ·rw [List.getElem?_drop]at hu;have hx:=hu;have hA:(⟨b,lo,none⟩:Addr).add j=⟨b,lo+j,none⟩:=by
    unfold Addr.add;by_cases h0:j=0
    ·rw [if_pos h0,h0];rfl
    ·rw [if_neg h0]
   rw [hA];simp only [World.cell?,hb];simpa using hx
  ·cases hu
 ·simp [Value.ownBlock,eq_comm]
end Go.RX
namespace Go.RX
def ends(k m:Nat)(hs:List HP):List HP:=hs.take k++(hs.drop k).drop ((hs.drop k).length - m)
theorem Bears.nil{B:List HP}{t s:Nat}:Bears B (sliHP false t s (.slice none 0 0) 0 []):=by
 refine⟨rfl,fun w S _=>⟨fun _=>False,⟨?_,fun k=>by simp⟩,fun _ h=>h.elim⟩⟩;simp only [Bool.false_eq_true,if_false];refine⟨by simp,none,0,0,rfl,rfl,Nat.le_refl _,fun _=>rfl,?_⟩;intro ad h;cases h
end Go.RX
