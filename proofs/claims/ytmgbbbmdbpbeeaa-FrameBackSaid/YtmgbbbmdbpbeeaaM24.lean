/- The types and functions of the seat's program. -/
import Derived.Test.YtmgbbbmdbpbeeaaProg
import Derived.Test.YtmgbbbmdbpbeeaaM23
open Go.Proofs.Try renaming prog → adE
open Int renaming toNat → ag
open List renaming getElem?_append_left → adz, getElem?_append_right → adA, getElem?_eq_getElem → ad8, getElem?_eq_none → aef, getElem?_eq_some_iff → adu, mem_of_getElem? → ad3
open Nat renaming lt_of_lt_of_le → adI, not_lt → aeh
open Option renaming map_eq_some_iff → adw
open Option.some renaming injEq → adv
namespace Go.RX
open Go.Proofs
set_option maxRecDepth 100000
def TT:List TI:=[
 ⟨3,.int .i64,1,8,[.int .i64 (.lit 0)],[]⟩,
 ⟨5,.int .u8,1,1,[.int .u8 (.lit 0)],[]⟩,
 ⟨9,.str,1,16,[.str []],[]⟩,
 ⟨22,.int .u16,1,2,[.int .u16 (.lit 0)],[]⟩,
 ⟨23,.slice 5,1,24,[.cC],[]⟩,
 ⟨24,.int .u64,1,8,[.int .u64 (.lit 0)],[]⟩,
 ⟨26,.int .u8,1,1,[.int .u8 (.lit 0)],[]⟩,
 ⟨28,.struct [(26,0),(3,1),(3,2),(3,3),(3,4)],5,40,[.int .u8 (.lit 0),.int .i64 (.lit 0),.int .i64 (.lit 0),.int .i64 (.lit 0),.int .i64 (.lit 0)],[(some .u8,1),(some .i64,4)]⟩,
 ⟨29,.int .i64,1,8,[.int .i64 (.lit 0)],[]⟩,
 ⟨32,.arr 12 5,12,12,[.cD .u8 12 (.lit 0)],[(some .u8,12)]⟩,
 ⟨34,.struct [(22,0),(24,1),(23,2),(32,3)],15,56,[.int .u16 (.lit 0),.int .u64 (.lit 0),.cC,.cD .u8 12 (.lit 0)],[]⟩,
 ⟨43,.struct [(24,0),(24,1)],2,16,[.int .u64 (.lit 0),.int .u64 (.lit 0)],[(some .u64,2)]⟩,
 ⟨44,.ptr 71,1,8,[.iK],[]⟩,
 ⟨47,.arr 16 5,16,16,[.cD .u8 16 (.lit 0)],[(some .u8,16)]⟩,
 ⟨51,.map 22 28,1,8,[.rR],[]⟩,
 ⟨58,.func,1,8,[.mc],[]⟩,
 ⟨59,.func,1,8,[.mc],[]⟩,
 ⟨61,.struct [(58,0),(59,1)],2,16,[.mc,.mc],[]⟩,
 ⟨67,.arr 256 5,256,256,[.cD .u8 256 (.lit 0)],[(some .u8,256)]⟩,
 ⟨69,.slice 73,1,24,[.cC],[]⟩,
 ⟨71,.struct [(67,0),(69,256)],257,280,[.cD .u8 256 (.lit 0),.cC],[]⟩,
 ⟨73,.arr 4 5,4,4,[.cD .u8 4 (.lit 0)],[(some .u8,4)]⟩,
 ⟨76,.arr 4 73,16,16,[.cD .u8 4 (.lit 0),.cD .u8 4 (.lit 0),.cD .u8 4 (.lit 0),.cD .u8 4 (.lit 0)],[(some .u8,16)]⟩,
 ⟨84,.int .u64,1,8,[.int .u64 (.lit 0)],[]⟩,
 ⟨85,.arr 2 24,2,16,[.cD .u64 2 (.lit 0)],[(some .u64,2)]⟩,
 ⟨89,.func,1,8,[.mc],[]⟩,
 ⟨92,.slice 23,1,24,[.cC],[]⟩,
 ⟨94,.arr 2 5,2,2,[.cD .u8 2 (.lit 0)],[(some .u8,2)]⟩,
 ⟨95,.arr 255 5,255,255,[.cD .u8 255 (.lit 0)],[(some .u8,255)]⟩,
 ⟨96,.arr 256 3,256,2048,[.cD .i64 256 (.lit 0)],[(some .i64,256)]⟩,
 ⟨106,.arr 32 5,32,32,[.cD .u8 32 (.lit 0)],[(some .u8,32)]⟩,
 ⟨108,.arr 64 5,64,64,[.cD .u8 64 (.lit 0)],[(some .u8,64)]⟩,
 ⟨112,.ptr 133,1,8,[.iK],[]⟩,
 ⟨115,.int .u32,1,4,[.int .u32 (.lit 0)],[]⟩,
 ⟨116,.ptr 136,1,8,[.iK],[]⟩,
 ⟨121,.struct [(24,0),(24,1)],2,16,[.int .u64 (.lit 0),.int .u64 (.lit 0)],[(some .u64,2)]⟩,
 ⟨125,.slice 115,1,24,[.cC],[]⟩,
 ⟨127,.slice 24,1,24,[.cC],[]⟩,
 ⟨129,.arr 3 3,3,24,[.cD .i64 3 (.lit 0)],[(some .i64,3)]⟩,
 ⟨131,.struct [(129,0),(129,3),(129,6),(129,9)],12,96,[.cD .i64 3 (.lit 0),.cD .i64 3 (.lit 0),.cD .i64 3 (.lit 0),.cD .i64 3 (.lit 0)],[(some .i64,12)]⟩,
 ⟨133,.struct [(125,0),(125,1),(3,2),(131,3)],15,152,[.cC,.cC,.int .i64 (.lit 0),.cD .i64 3 (.lit 0),.cD .i64 3 (.lit 0),.cD .i64 3 (.lit 0),.cD .i64 3 (.lit 0)],[]⟩,
 ⟨136,.struct [(127,0),(127,1),(3,2),(131,3)],15,152,[.cC,.cC,.int .i64 (.lit 0),.cD .i64 3 (.lit 0),.cD .i64 3 (.lit 0),.cD .i64 3 (.lit 0),.cD .i64 3 (.lit 0)],[]⟩,
 ⟨143,.arr 8 115,8,32,[.cD .u32 8 (.lit 0)],[(some .u32,8)]⟩,
 ⟨145,.arr 8 24,8,64,[.cD .u64 8 (.lit 0)],[(some .u64,8)]⟩]
theorem FN:bC adE TT=true:=by kernel_rfl
noncomputable def FT:List (Nat×Func):=[(2,Try.f2),(3,Try.f3),(4,Try.f4),(5,Try.f5),(6,Try.f6),(7,Try.f7),(8,Try.f8),(9,Try.f9),(10,Try.f10),(11,Try.f11),(12,Try.f12),(13,Try.f13),(14,Try.f14),(15,Try.f15),(16,Try.f16),(17,Try.f17),(18,Try.f18),(19,Try.f19),(20,Try.f20),(21,Try.f21),(22,Try.f22),(23,Try.f23),(24,Try.f24),(25,Try.f25),(26,Try.f26),(27,Try.f27),(28,Try.f28),(29,Try.f29),(30,Try.f30),(31,Try.f31),(32,Try.f32),(33,Try.f33),(34,Try.f34),(35,Try.f35),(36,Try.f36),(37,Try.f37),(38,Try.f38),(39,Try.f39),(40,Try.f40),(41,Try.f41),(42,Try.f42),(43,Try.f43),(44,Try.f44),(45,Try.f45),(46,Try.f46),(47,Try.f47),(48,Try.f48),(49,Try.f49),(50,Try.f50),(51,Try.f51),(52,Try.f52),(53,Try.f53),(54,Try.f54),(55,Try.f55),(56,Try.f56),(57,Try.f57),(58,Try.f58),(59,Try.f59),(60,Try.f60),(61,Try.f61),(62,Try.f62),(63,Try.f63),(64,Try.f64),(65,Try.f65),(66,Try.f66),(67,Try.f67),(68,Try.f68),(69,Try.f69),(70,Try.f70),(71,Try.f71),(72,Try.f72),(73,Try.f73),(74,Try.f74),(75,Try.f75),(76,Try.f76),(77,Try.f77),(78,Try.f78),(79,Try.f79),(80,Try.f80),(81,Try.f81),(82,Try.f82),(83,Try.f83),(84,Try.f84)]
theorem qv:bL
 adE FT:=
 bL.cons Try.func2 (by kernel_rfl) <|
 bL.cons Try.func3 (by kernel_rfl) <|
 bL.cons Try.func4 (by kernel_rfl) <|
 bL.cons Try.func5 (by kernel_rfl) <|
 bL.cons Try.func6 (by kernel_rfl) <|
 bL.cons Try.func7 (by kernel_rfl) <|
 bL.cons Try.func8 (by kernel_rfl) <|
 bL.cons Try.func9 (by kernel_rfl) <|
 bL.cons Try.func10 (by kernel_rfl) <|
 bL.cons Try.func11 (by kernel_rfl) <|
 bL.cons Try.func12 (by kernel_rfl) <|
 bL.cons Try.func13 (by kernel_rfl) <|
 bL.cons Try.func14 (by kernel_rfl) <|
 bL.cons Try.func15 (by kernel_rfl) <|
 bL.cons Try.func16 (by kernel_rfl) <|
 bL.cons Try.func17 (by kernel_rfl) <|
 bL.cons Try.func18 (by kernel_rfl) <|
 bL.cons Try.func19 (by kernel_rfl) <|
 bL.cons Try.func20 (by kernel_rfl) <|
 bL.cons Try.func21 (by kernel_rfl) <|
 bL.cons Try.func22 (by kernel_rfl) <|
 bL.cons Try.func23 (by kernel_rfl) <|
 bL.cons Try.func24 (by kernel_rfl) <|
 bL.cons Try.func25 (by kernel_rfl) <|
 bL.cons Try.func26 (by kernel_rfl) <|
 bL.cons Try.func27 (by kernel_rfl) <|
 bL.cons Try.func28 (by kernel_rfl) <|
 bL.cons Try.func29 (by kernel_rfl) <|
 bL.cons Try.func30 (by kernel_rfl) <|
 bL.cons Try.func31 (by kernel_rfl) <|
 bL.cons Try.func32 (by kernel_rfl) <|
 bL.cons Try.func33 (by kernel_rfl) <|
 bL.cons Try.func34 (by kernel_rfl) <|
 bL.cons Try.func35 (by kernel_rfl) <|
 bL.cons Try.func36 (by kernel_rfl) <|
 bL.cons Try.func37 (by kernel_rfl) <|
 bL.cons Try.func38 (by kernel_rfl) <|
 bL.cons Try.func39 (by kernel_rfl) <|
 bL.cons Try.func40 (by kernel_rfl) <|
 bL.cons Try.func41 (by kernel_rfl) <|
 bL.cons Try.func42 (by kernel_rfl) <|
 bL.cons Try.func43 (by kernel_rfl) <|
 bL.cons Try.func44 (by kernel_rfl) <|
 bL.cons Try.func45 (by kernel_rfl) <|
 bL.cons Try.func46 (by kernel_rfl) <|
 bL.cons Try.func47 (by kernel_rfl) <|
 bL.cons Try.func48 (by kernel_rfl) <|
 bL.cons Try.func49 (by kernel_rfl) <|
 bL.cons Try.func50 (by kernel_rfl) <|
 bL.cons Try.func51 (by kernel_rfl) <|
 bL.cons Try.func52 (by kernel_rfl) <|
 bL.cons Try.func53 (by kernel_rfl) <|
 bL.cons Try.func54 (by kernel_rfl) <|
 bL.cons Try.func55 (by kernel_rfl) <|
 bL.cons Try.func56 (by kernel_rfl) <|
 bL.cons Try.func57 (by kernel_rfl) <|
 bL.cons Try.func58 (by kernel_rfl) <|
 bL.cons Try.func59 (by kernel_rfl) <|
 bL.cons Try.func60 (by kernel_rfl) <|
 bL.cons Try.func61 (by kernel_rfl) <|
 bL.cons Try.func62 (by kernel_rfl) <|
 bL.cons Try.func63 (by kernel_rfl) <|
 bL.cons Try.func64 (by kernel_rfl) <|
 bL.cons Try.func65 (by kernel_rfl) <|
 bL.cons Try.func66 (by kernel_rfl) <|
 bL.cons Try.func67 (by kernel_rfl) <|
 bL.cons Try.func68 (by kernel_rfl) <|
 bL.cons Try.func69 (by kernel_rfl) <|
 bL.cons Try.func70 (by kernel_rfl) <|
 bL.cons Try.func71 (by kernel_rfl) <|
 bL.cons Try.func72 (by kernel_rfl) <|
 bL.cons Try.func73 (by kernel_rfl) <|
 bL.cons Try.func74 (by kernel_rfl) <|
 bL.cons Try.func75 (by kernel_rfl) <|
 bL.cons Try.func76 (by kernel_rfl) <|
 bL.cons Try.func77 (by kernel_rfl) <|
 bL.cons Try.func78 (by kernel_rfl) <|
 bL.cons Try.func79 (by kernel_rfl) <|
 bL.cons Try.func80 (by kernel_rfl) <|
 bL.cons Try.func81 (by kernel_rfl) <|
 bL.cons Try.func82 (by kernel_rfl) <|
 bL.cons Try.func83 (by kernel_rfl) <|
 bL.cons Try.func84 (by kernel_rfl) <|
 bL.nil
theorem FO:Try.prog.follows .mixedOrders=true:=by kernel_rfl
def bU(a b:List HP):Prop:= ∀(w:World) (Fs:List HP),bG (a++Fs) w→bG (b++Fs) w
theorem bU.refl(a:List HP):bU a a:=fun _ _ h=>h
theorem bU.trans{a b c:List HP}(h:bU a b)(k:bU b c):bU a c:=fun w Fs o=>k w Fs (h w Fs o)
theorem Pk{α:Type}{a b:List α}(h:b.Sublist a): ∃f:Nat→Nat,(∀i j,f i=f j→i=j)∧∀(j:Nat) x,b[j]? =some x→a[f j]? =some x:=by
 induction h with
 | slnil=>exact⟨id,fun _ _ h=>h,fun _ _ h=>h⟩
 | cons x _ ih=>
  obtain⟨f,h1,h2⟩:=ih;exact⟨fun j=>f j+1,fun i j h=>h1 i j (by simpa using h),fun j y hy=>by simpa using h2 j y hy⟩
 | cons_cons x _ ih=>
  obtain⟨f,h1,h2⟩:=ih;refine⟨fun j=>match j with | 0=>0 | j+1=>f j+1,fun i j h=>?_,fun j y hy=>?_⟩
  ·cases i<;>cases j<;>simp at h ⊢
   exact h1 _ _ h
  ·cases j with
   | zero=>simpa using hy
   | succ j=>simpa using h2 j y (by simpa using hy)
theorem bG.sub{a b:List HP}{w:World}(h:bG a w)(hs:b.Sublist a):bG b w:=by
 obtain⟨f,h1,h2⟩:=Pk hs;refine h.ss (fun j=>some (f j)) (fun j x hx=> .inr ⟨f j,rfl,h2 j x hx⟩) ?_;intro j j' i hj kz _ _;cases hj;simp only [adv]at kz;exact h1 _ _ kz.symm
theorem bU.sub{a b:List HP}(h:b.Sublist a):bU a b:=fun _ _ o=>o.sub (List.Sublist.append h (List.Sublist.refl _))
theorem bU.put{a:List HP}(i:Nat)(h0 h':HP)(hi:a[i]? =some h0)(hw:h'.wr=true→h0.wr=true)(hp: ∀w S,h0.p w S→∃S':Nat→Prop,(∀k,S' k→S k)∧h'.p w S'):bU a (a.set i h'):=by
 intro w Fs ⟨S,hS⟩;have bP:i<a.length:=(adu.1 hi).1;obtain⟨S',h1,h2⟩:=hp _ _ (hS.at_ i h0 (by rw [adz bP];exact hi)).1;exact bG.weaken hS i h0 h' hi hw S' h1 h2
theorem ar.post{P:Program}{f:Nat}{args:List Value}{pre:List HP}{p q:Value→List HP→Prop}(h:ar P f args pre p)(hpq: ∀v hs,p v hs→∃nC,bU hs nC∧q v nC):ar P f args pre q:=by
 intro w Fs o;refine(h w Fs o).mono ?_;rintro e w' ⟨v,hs,he,hp,ho,nC⟩;obtain⟨vW,h1,h2⟩:=hpq v hs hp;exact⟨v,vW,he,h2,h1 _ _ ho,nC⟩
theorem ar.pre{P:Program}{f:Nat}{args:List Value}{pre RY:List HP}{p:Value→List HP→Prop}(h:ar P f args RY p)(he:bU pre RY):ar P f args pre p:=
 fun w Fs o=>h w Fs (he _ _ o)
theorem L9{w:World}{t s n:Nat}{v:Value}{cs:List Value}{S:Nat→Prop}(h:(au true t s v n cs).p w S):(au false t s v n cs).p w (fun k=>S k∧0<n):=by
 obtain⟨hv,hl⟩:=tU h;refine⟨by simp only [Bool.false_eq_true,if_false];exact⟨hl,hv⟩,fun k=>?_⟩;show(S k∧0<n)↔_;rw [h.2 k];simp
def uH(k:IntKind)(w:World)(a:Option Addr)(len cap:Nat)(zs:List Int):Prop:=
 (a=none∧len=0∧cap=0∧zs=[])∨
 ∃x,a=some x∧len≤cap∧cap≤maxLen∧zs.length=cap∧(∀i,i<zs.length→w.cell? (x.add i)=some (.int k (zs.getD i 0)))∧∀n∈zs,(Lit.int k n).wf=true
theorem gl(k:IntKind)(n:Nat)(f:Nat→Int):aK n [aJ k 1 f]=aj k n f:=by
 unfold aK aj
 induction n with
 | zero=>rfl
 | succ n ih=>
  rw [List.range_succ,List.flatMap_append,List.map_append,ih];simp [aJ,aj]
theorem AD{k:IntKind}{w:World}{a:Option Addr}{len cap:Nat}{zs:List Int}(h:uH k w a len cap zs)(t:Nat):
  (au false t 1 (.slice a len cap) len (aK len [aJ k 1 fun i=>zs.getD i 0])).p w (fun b=>(Value.slice a len cap).ownBlock=some b∧0<len)∧
   ∀b,(Value.slice a len cap).ownBlock=some b∧0<len→b<w.heap.size:=by
 refine⟨⟨?_,fun b=>by simp⟩,?_⟩
 ·simp only [Bool.false_eq_true,if_false];rw [gl];refine⟨by simp [aF],a,len,cap,rfl,rfl,?_,?_,?_⟩
  ·rcases h with⟨_,rfl,rfl,_⟩ | ⟨x,_,h,_⟩
   ·exact Nat.le_refl _
   ·exact h
  ·rintro rfl;rcases h with⟨_,h,_⟩ | ⟨x,h,_⟩
   ·exact h
   ·cases h
  ·rintro ad rfl;rcases h with⟨h,_⟩ | ⟨x,h,hl,_,hz,hc,_⟩
   ·cases h
   ·cases h;constructor
    ·intro mg;have h0:=hc 0 (by omega);rw [jI]at h0;exact World.cell?_spot h0
    ·intro j u hu;rw [bd]at hu;split at hu
     ·rename_i hj;rw [hc j (by omega),←hu]
     ·cases hu
 ·rintro b ⟨hb,mg⟩;rcases h with⟨rfl,rfl,_⟩ | ⟨x,rfl,hl,_,hz,hc,_⟩
  ·omega
  ·simp only [Value.ownBlock,adv]at hb;subst hb;have:=World.block_lt_of_cell? w (x.add 0) (hc 0 (by omega));rw [jI]at this;exact this
theorem ar.kH{P:Program}{C:Ctx}(hT:bC P C.T=true)(AB:bL P C.FT)(hm:P.follows .mixedOrders=true){f:Nat}{fd:Func}(hf:P.funcs[f]? =some fd){ax:Value→List HP→Prop}{args:List SV}{hp:List Ck}{aX:cG}{ρ:Env}(hl:fg ρ aX)
  {g:F} {s:Prop} (e:gS C f args hp aX fd=g) (hv:VC P ax g ρ (fun _=>LC.none)=s) (hs:s) (Em:fI P C:=by exact fI.none rfl):ar P f (SV.vals ρ args) (hp.map (Ck.den ρ)) ax:=by
 subst e;subst hv;exact ar.L8 hT AB hm hf hl hs Em
theorem L_{α:Type}{a b:List α}(h:a.Perm b): ∃f:Nat→Nat,(∀i j,f i=f j→i=j)∧∀(j:Nat) x,b[j]? =some x→a[f j]? =some x:=by
 induction h with
 | nil=>exact⟨id,fun _ _ h=>h,fun _ _ h=>h⟩
 | cons x _ ih=>
  obtain⟨f,h1,h2⟩:=ih;refine⟨fun j=>match j with | 0=>0 | j+1=>f j+1,fun i j h=>?_,fun j y hy=>?_⟩
  ·cases i<;>cases j<;>simp at h ⊢
   exact h1 _ _ h
  ·cases j with
   | zero=>simpa using hy
   | succ j=>simpa using h2 j y (by simpa using hy)
 | swap x y l=>
  refine⟨fun j=>match j with | 0=>1 | 1=>0 | j+2=>j+2,fun i j h=>?_,fun j z hz=>?_⟩
  ·match i,j,h with
   | 0,0,_=>rfl
   | 1,1,_=>rfl
   | 0,1,h=>simp at h
   | 1,0,h=>simp at h
   | 0,j+2,h=>simp at h
   | 1,j+2,h=>simp at h
   | i+2,0,h=>simp at h
   | i+2,1,h=>simp at h
   | i+2,j+2,h=>simpa using h
  ·match j,hz with
   | 0,hz=>simpa using hz
   | 1,hz=>simpa using hz
   | j+2,hz=>simpa using hz
 | trans _ _ ih1 ih2=>
  obtain⟨f,f1,f2⟩:=ih1;obtain⟨g,g1,g2⟩:=ih2;exact⟨fun j=>f (g j),fun i j h=>g1 _ _ (f1 _ _ h),fun j x hx=>f2 _ _ (g2 _ _ hx)⟩
theorem bG.perm{a b:List HP}{w:World}(h:bG a w)(hp:a.Perm b):bG b w:=by
 obtain⟨f,h1,h2⟩:=L_ hp;refine h.ss (fun j=>some (f j)) (fun j x hx=> .inr ⟨f j,rfl,h2 j x hx⟩) ?_;intro j j' i hj kz _ _;cases hj;simp only [adv]at kz;exact h1 _ _ kz.symm
theorem bU.perm{a b:List HP}(h:a.Perm b):bU a b:=fun _ _ o=>o.perm (h.append_right _)
theorem bU.frame{a b:List HP}(h:bU a b)(r:List HP):bU (a++r) (b++r):=fun w Fs o=>by
 rw [List.append_assoc]at o ⊢;exact h w (r++Fs) o
theorem ar.frame{P:Program}{f:Nat}{args:List Value}{pre:List HP}{post:Value→List HP→Prop}(h:ar P f args pre post)(r:List HP):
  ar P f args (pre++r) fun v hs=> ∃BM,hs=BM++r∧post v BM:=by
 intro w Fs o;rw [List.append_assoc]at o;refine(h w (r++Fs) o).mono ?_;rintro e w' ⟨v,hs,he,hp,ho,nC⟩;exact⟨v,hs++r,he,⟨hs,rfl,hp⟩,by rw [List.append_assoc];exact ho,nC⟩
def HP.ex{α:Type}(F:α→HP):HP where
 wr:=true
 p w S:= ∃a,(F a).p w S
 stable w w' S h hk:=by
  obtain⟨a,ha⟩:=h;exact⟨a,(F a).stable w w' S ha hk⟩
theorem bU.ex{α:Type}{F:α→HP}(a:α)(hw:(F a).wr=true):bU [F a] [HP.ex F]:=by
 have:=bU.put (a:=[F a]) 0 (F a) (HP.ex F) rfl (fun _=>hw) fun w S h=>⟨S,fun _ h=>h,⟨a,h⟩⟩
 simpa using this
theorem ar.ex{α:Type}{F:α→HP}{P:Program}{f:Nat}{args:List Value}{R:List HP}{post:Value→List HP→Prop}(h: ∀a,ar P f args (F a::R) post):ar P f args (HP.ex F::R) post:=by
 intro w Fs ⟨S,hS⟩;obtain⟨⟨a,ha⟩,hb⟩:=hS.at_ 0 (HP.ex F) rfl;refine h a w Fs ⟨S,⟨fun i x hx=>?_,fun i j x y dR hx hy hw=>?_⟩⟩
 ·match i,hx with
  | 0,hx=>simp at hx;subst hx;exact⟨ha,hb⟩
  | i+1,hx=>exact hS.at_ (i+1) x (by simpa using hx)
 ·match i,j,dR,hx,hy with
  | 0,0,dR,_,_=>exact absurd rfl dR
  | 0,j+1,_,_,hy=>exact hS.apart 0 (j+1) (HP.ex F) y (by omega) rfl (by simpa using hy) (.inl rfl)
  | i+1,0,_,hx,_=>exact hS.apart (i+1) 0 x (HP.ex F) (by omega) (by simpa using hx) rfl (.inr rfl)
  | i+1,j+1,dR,hx,hy=>exact hS.apart (i+1) (j+1) x y dR (by simpa using hx) (by simpa using hy) hw
def cG.only(c:cG):Bool:=c.i==0&&c.a==0&&c.bo==0&&c.p==0&&c.r==0
def SV.same:SV→SV→Bool
 | .int k (.lit n),.int k' (.lit m)=>k==k'&&n==m
 | .bool (.lit a),.bool (.lit b)=>a==b
 | .str l,.str l'=>l==l'
 | .agg a,.agg b=>eo (lK a) (lK b)
 | .oJ [a,b],.oJ [c,d]=>SV.same a c&&SV.same b d
 | _,_=>false
def fX(a:Nat→Int)(n:Int):Nat→Int:=ao (aA (fun _=>0) 1 (ag n) a) 0 n
theorem ar.nW{P:Program}{C:Ctx}(hT:bC P C.T=true)(AB:bL P C.FT)(hm:P.follows .mixedOrders=true){f:Nat}{fd:Func}(hf:P.funcs[f]? =some fd){args:List SV}{aX:cG}{ρ:Env}(hl:fg ρ aX)(Q:Value→Prop)
  {g:F} {s:Prop} (e:gS C f args [] aX fd=g) (hv:VC P (fun v _=>Q v) g ρ (fun _=>LC.none)=s) (hs:s) (Em:fI P C:=by exact fI.none rfl):ar P f (SV.vals ρ args) [] (fun v hs=>Q v∧hs=[]):=by
 subst e;subst hv;have:=ar.L8 (ax:=fun v _=>Q v) (hp:=[]) hT AB hm hf hl hs Em;exact this.post fun v hs h=>⟨[],bU.sub (List.nil_sublist _),h,rfl⟩
theorem bG.dup{h:HP}{hs:List HP}{w:World}(hw:h.wr=false)(ho:bG (h::hs) w):bG (h::h::hs) w:=by
 obtain⟨S,hS⟩:=ho;refine⟨fun i=>S (i - 1),⟨?_,?_⟩⟩
 ·intro i x hx;cases i with
  | zero=>
   simp at hx;subst hx;exact hS.at_ 0 _ rfl
  | succ i=>exact hS.at_ i x (by simpa using hx)
 ·intro i j x y rk hx hy s8;cases i with
  | zero=>
   cases j with
   | zero=>exact absurd rfl rk
   | succ j=>
    simp at hx;subst hx;cases j with
    | zero=>
     simp at hy;subst hy;simp [hw]at s8
    | succ j=>exact hS.apart 0 (j+1) _ y (by omega) rfl (by simpa using hy) s8
  | succ i=>
   cases j with
   | zero=>
    simp at hy;subst hy;cases i with
    | zero=>
     simp at hx;subst hx;simp [hw]at s8
    | succ i=>exact hS.apart (i+1) 0 x _ (by omega) (by simpa using hx) rfl s8
   | succ j=>exact hS.apart i j x y (by omega) (by simpa using hx) (by simpa using hy) s8
theorem ar.look{P:Program}{f:Nat}{args:List Value}{h:HP}{Q:Value→Prop}(hw:h.wr=false)(hm:ar P f args [h] fun v _=>Q v):ar P f args [h] fun v hs=>Q v∧hs=[h]:=by
 intro w Fs ho;refine(hm w (h::Fs) (bG.dup hw ho)).mono ?_;rintro e w' ⟨v,hs,rfl,hq,HY,rK⟩;exact⟨v,[h],rfl,⟨hq,rfl⟩,bG.sub HY (List.sublist_append_right _ _),rK⟩
theorem ar.know{P:Program}{f:Nat}{args:List Value}{pre:List HP}{p Q:Value→List HP→Prop}(h:ar P f args pre p)(hq: ∀v hs,p v hs→∀(w:World) (Fs:List HP),bG (hs++Fs) w→Q v hs):
  ar P f args pre fun v hs=>p v hs∧Q v hs:=by
 intro w Fs o;refine(h w Fs o).mono ?_;rintro e w' ⟨v,hs,he,hp,ho,nC⟩;exact⟨v,hs,he,⟨hp,hq v hs hp _ _ ho⟩,ho,nC⟩
def ay(B:List HP)(h:HP):Prop:=h.wr=false∧∀(w:World) (S:Nat→Nat→Prop),Sep B S w→∃S':Nat→Prop,h.p w S'∧∀k,S' k→∃i,i<B.length∧S i k
theorem Sep.mid{A B C:List HP}{S:Nat→Nat→Prop}{w:World}(h:Sep (A++B++C) S w):Sep B (fun i=>S (A.length+i)) w:=by
 have key: ∀(i:Nat) x,B[i]? =some x→(A++B++C)[A.length+i]? =some x:=by
  intro i x hx;have hl:i<B.length:=(adu.1 hx).1;rw [adz (by simp;omega),adA (by omega),Nat.add_sub_cancel_left,hx]
 exact⟨fun i x hx=>h.at_ _ x (key i x hx),fun i j x y rk hx hy hw=>h.apart _ _ x y (by omega) (key i x hx) (key j y hy) hw⟩
def nX(w0:World)(U:Nat→Prop):HP where
 wr:=false
 p w T:=(∀k,T k↔U k)∧∀k,U k→w.heap[k]? =w0.heap[k]?
 stable _ _ _ h hk:=⟨h.1,fun k hu=>(hk k ((h.1 k).2 hu)).trans (h.2 k hu)⟩
theorem ar.Pl{P:Program}{f:Nat}{args:List Value}{A B L:List HP}{Q:Value→List HP→Prop}(hm:ar P f args (A++L) Q)(hQ: ∀v hs,Q v hs→∀h∈hs,h.wr=true)(hL: ∀h∈L,ay B h):
  ar P f args (A++B) fun v hs=> ∃BM,Q v BM∧hs=BM++B:=by
 intro w Fs ⟨S,hS⟩;have gA: ∀(i:Nat) x,A[i]? =some x→(A++B++Fs)[i]? =some x:=by
  intro i x hx;have hl:i<A.length:=(adu.1 hx).1;rw [adz (by simp;omega),adz hl,hx]
 have gB: ∀(i:Nat) x,B[i]? =some x→(A++B++Fs)[A.length+i]? =some x:=by
  intro i x hx;have hl:i<B.length:=(adu.1 hx).1;rw [adz (by simp;omega),adA (by omega),Nat.add_sub_cancel_left,hx]
 have gR: ∀(i:Nat) x,(B++Fs)[i]? =some x→(A++B++Fs)[A.length+i]? =some x:=by
  intro i x hx;rw [List.append_assoc,adA (by omega),Nat.add_sub_cancel_left,hx]
 have hSB:Sep B (fun i=>S (A.length+i)) w:=Sep.mid hS
 let U:Nat→Prop:=fun k=>k<w.heap.size∧∀i x,A[i]? =some x→x.wr=true→¬S i k
 have hc: ∀i:Nat,∃S':Nat→Prop,∀x,L[i]? =some x→x.p w S'∧∀k,S' k→∃j,j<B.length∧S (A.length+j) k:=by
  intro i;cases hi:L[i]? with
  | none=>exact⟨fun _=>False,fun x hx=>nomatch hx⟩
  | some y=>
   obtain⟨S',LI⟩:=(hL y (ad3 hi)).2 w _ hSB;exact⟨S',fun x hx=>by cases hx;exact LI⟩
 obtain⟨S1,Zu⟩:=Classical.axiomOfChoice hc;have wrL: ∀(i:Nat) x,L[i]? =some x→x.wr=false:=fun i x hx=>(hL x (ad3 hx)).1
 have o1:bG (A++L++[nX w U]) w:=by
  have s7: ∀(i:Nat) x,(A++L++[nX w U])[i]? =some x→(i<A.length∧A[i]? =some x)∨(A.length≤i∧i<A.length+L.length∧L[i - A.length]? =some x)∨(i=A.length+L.length∧x=nX w U):=by
   intro i x hx;by_cases h1:i<A.length
   ·rw [adz (by simp;omega),adz h1]at hx;exact .inl ⟨h1,hx⟩
   ·by_cases h2:i<A.length+L.length
    ·rw [adz (by simp;omega),adA (by omega)]at hx;exact .inr (.inl ⟨by omega,h2,hx⟩)
    ·rw [adA (by simp;omega)]at hx;have:i - (A++L).length=0:=by
      rcases Nat.eq_zero_or_pos (i - (A++L).length)with h | h
      ·exact h
      ·rw [aef (by simp at h ⊢;omega)]at hx;cases hx
     rw [this]at hx;cases hx;simp at this;exact .inr (.inr ⟨by omega,rfl⟩)
  refine⟨fun i=>if i<A.length then S i else if i<A.length+L.length then S1 (i - A.length)else U,⟨?_,?_⟩⟩
  ·intro i x hx;rcases s7 i x hx with⟨h,hx⟩ | ⟨h,h',hx⟩ | ⟨h,rfl⟩
   ·simp only [if_pos h];exact hS.at_ i x (gA i x hx)
   ·simp only [if_neg (aeh.2 h),if_pos h'];obtain⟨hp,hs⟩:=Zu _ x hx;refine⟨hp,fun k hk=>?_⟩;obtain⟨j,hj,XD⟩:=hs k hk;exact(hS.at_ _ _ (gB j _ (ad8 hj))).2 k XD
   ·subst h;simp only [if_neg (show¬A.length+L.length<A.length by omega),if_neg (Nat.lt_irrefl _)];exact⟨⟨fun _=>Iff.rfl,fun _ _=>rfl⟩,fun k hk=>hk.1⟩
  ·have half: ∀i j x y,i≠j→(A++L++[nX w U])[i]? =some x→(A++L++[nX w U])[j]? =some y→x.wr=true→∀k,(if i<A.length then S i else if i<A.length+L.length then S1 (i - A.length)else U) k→¬(if j<A.length then S j else if j<A.length+L.length then S1 (j - A.length)else U) k:=by
    intro i j x y rk hx hy hw k;rcases s7 i x hx with⟨h,hx⟩ | ⟨h,h',hx⟩ | ⟨h,rfl⟩
    ·simp only [if_pos h];rcases s7 j y hy with⟨g,hy⟩ | ⟨g,g',hy⟩ | ⟨g,rfl⟩
     ·simp only [if_pos g];exact hS.apart i j x y rk (gA i x hx) (gA j y hy) (.inl hw) k
     ·simp only [if_neg (aeh.2 g),if_pos g'];intro hk mQ;obtain⟨m,hm,XD⟩:=(Zu _ y hy).2 k mQ;exact hS.apart i (A.length+m) x _ (by omega) (gA i x hx) (gB m _ (ad8 hm)) (.inl hw) k hk XD
     ·subst g;simp only [if_neg (show¬A.length+L.length<A.length by omega),if_neg (Nat.lt_irrefl _)];exact fun hk hu=>hu.2 i x hx hw hk
    ·rw [wrL _ x hx]at hw;cases hw
    ·cases hw
   intro i j x y rk hx hy hw k hk mQ;rcases hw with hw | hw
   ·exact half i j x y rk hx hy hw k hk mQ
   ·exact half j i y x (Ne.symm rk) hy hx hw k mQ hk
 refine(hm w _ o1).mono ?_;rintro e w' ⟨v,hs,rfl,hq,⟨S2,UN⟩,rK⟩;refine⟨v,hs++B,rfl,⟨hs,hq,rfl⟩,?_,rK⟩;have hK:=UN.at_ hs.length (nX w U) (by simp);have wr2:=hQ v hs hq;have g2: ∀(i:Nat) x,hs[i]? =some x→(hs++[nX w U])[i]? =some x:=fun i x hx=>by
  rw [adz (adu.1 hx).1,hx]
 have XE: ∀(j:Nat) y,(B++Fs)[j]? =some y→∀k,S (A.length+j) k→U k:=by
  intro j y hy k hk;refine⟨(hS.at_ _ y (gR j y hy)).2 k hk,fun i x hx hw mQ=>?_⟩;have hl:i<A.length:=(adu.1 hx).1;exact hS.apart i (A.length+j) x y (by omega) (gA i x hx) (gR j y hy) (.inl hw) k mQ hk
 have s7: ∀(i:Nat) x,(hs++B++Fs)[i]? =some x→(i<hs.length∧hs[i]? =some x)∨(hs.length≤i∧(B++Fs)[i - hs.length]? =some x):=by
  intro i x hx;rw [List.append_assoc]at hx;by_cases h1:i<hs.length
  ·rw [adz h1]at hx;exact .inl ⟨h1,hx⟩
  ·rw [adA (by omega)]at hx;exact .inr ⟨by omega,hx⟩
 refine⟨fun i=>if i<hs.length then S2 i else S (A.length+(i - hs.length)),⟨?_,?_⟩⟩
 ·intro i x hx;rcases s7 i x hx with⟨h,hx⟩ | ⟨h,hx⟩
  ·simp only [if_pos h];exact UN.at_ i x (g2 i x hx)
  ·simp only [if_neg (aeh.2 h)];obtain⟨hp,hb⟩:=hS.at_ _ x (gR _ x hx);refine⟨x.stable _ _ _ hp fun k hk=>?_,fun k hk=>adI (hb k hk) rK.size⟩;exact hK.1.2 k (XE _ x hx k hk)
 ·have half: ∀i j x y,i≠j→(hs++B++Fs)[i]? =some x→(hs++B++Fs)[j]? =some y→x.wr=true→∀k,(if i<hs.length then S2 i else S (A.length+(i - hs.length))) k→¬(if j<hs.length then S2 j else S (A.length+(j - hs.length))) k:=by
   intro i j x y rk hx hy hw k;rcases s7 i x hx with⟨h,hx⟩ | ⟨h,hx⟩
   ·simp only [if_pos h];rcases s7 j y hy with⟨g,hy⟩ | ⟨g,hy⟩
    ·simp only [if_pos g];exact UN.apart i j x y rk (g2 i x hx) (g2 j y hy) (.inl hw) k
    ·simp only [if_neg (aeh.2 g)];intro hk mQ;exact UN.apart i hs.length x (nX w U) (by omega) (g2 i x hx) (by simp) (.inl hw) k hk ((hK.1.1 k).2 (XE _ y hy k mQ))
   ·simp only [if_neg (aeh.2 h)];rcases s7 j y hy with⟨g,hy⟩ | ⟨g,hy⟩
    ·simp only [if_pos g];intro hk mQ;exact UN.apart j hs.length y (nX w U) (by omega) (g2 j y hy) (by simp) (.inl (wr2 y (ad3 hy))) k mQ ((hK.1.1 k).2 (XE _ x hx k hk))
    ·simp only [if_neg (aeh.2 g)];exact hS.apart _ _ x y (by omega) (gR _ x hx) (gR _ y hy) (.inl hw) k
  intro i j x y rk hx hy hw k hk mQ;rcases hw with hw | hw
  ·exact half i j x y rk hx hy hw k hk mQ
  ·exact half j i y x (Ne.symm rk) hy hx hw k mQ hk
theorem ay.own{t s n:Nat}{v:Value}{cs:List Value}:ay [au true t s v n cs] (au false t s v n cs):=by
 refine⟨rfl,fun w S h=>?_⟩;exact⟨_,L9 (h.at_ 0 _ rfl).1,fun k hk=>⟨0,by simp,hk.1⟩⟩
theorem ay.self{h:HP}(hw:h.wr=false):ay [h] h:=⟨hw,fun _ _ hS=>⟨_,(hS.at_ 0 _ rfl).1,fun _ hk=>⟨0,by simp,hk⟩⟩⟩
theorem ay.mid{A B C:List HP}{h:HP}(hb:ay B h):ay (A++B++C) h:=by
 refine⟨hb.1,fun w S hS=>?_⟩;obtain⟨S',hp,hs⟩:=hb.2 w _ (Sep.mid hS);refine⟨S',hp,fun k hk=>?_⟩;obtain⟨i,hi,hk⟩:=hs k hk;exact⟨A.length+i,by simp;omega,hk⟩
theorem ay.left{B C:List HP}{h:HP}(hb:ay B h):ay (B++C) h:=ay.mid (A:=[]) hb
theorem ay.right{A B:List HP}{h:HP}(hb:ay B h):ay (A++B) h:=by
 have:=ay.mid (A:=A) (C:=[]) hb
 rwa [List.append_nil]at this
theorem ay.map{B:List HP}{h h':HP}(hb:ay B h)(hw:h'.wr=false)(hp: ∀w S,h.p w S→∃S':Nat→Prop,h'.p w S'∧∀k,S' k→S k):ay B h':=by
 refine⟨hw,fun w S hS=>?_⟩;obtain⟨S1,h1,h2⟩:=hb.2 w S hS;obtain⟨S2,h3,h4⟩:=hp w S1 h1;exact⟨S2,h3,fun k hk=>h2 k (h4 k hk)⟩
theorem Ma{w:World}{t s n lo hi:Nat}{mx:Option Nat}{v:Value}{cs:List Value}{S:Nat→Prop}(h:(au false t s v n cs).p w S)(h1:lo≤hi)(h2:hi≤n)(h3: ∀m,mx=some m→hi≤m):
  ∃S':Nat→Prop,(au false t s (aC s v lo hi mx) (hi - lo) ((cs.drop (lo*s)).take ((hi - lo)*s))).p w S'∧∀k,S' k→S k:=by
 obtain⟨h0,hS⟩:=h;simp only [Bool.false_eq_true,if_false]at h0;obtain⟨hlen,a,m,c,rfl,rfl,OQ,hn,hv⟩:=h0;refine⟨fun k=>(aC s (.slice a m c) lo hi mx).ownBlock=some k∧0<hi - lo,⟨?_,fun k=>by simp⟩,?_⟩
 ·simp only [Bool.false_eq_true,if_false];have Ws:(hi - lo)*s=hi*s - lo*s:=by rw [Nat.sub_mul]
  have Wt:hi*s≤m*s:=Nat.mul_le_mul_right s h2;have LZ:lo*s≤hi*s:=Nat.mul_le_mul_right s h1;refine⟨by rw [List.length_take,List.length_drop,hlen];omega,_,_,_,rfl,rfl,?_,?_,?_⟩
  ·cases mx with
   | none=>simp;omega
   | some x=>have:=h3 x rfl;simp;omega
  ·intro he;split at he
   ·have:=hn he;omega
   ·rw [Option.map_eq_none_iff]at he;have:=hn he;omega
  ·intro ad he;by_cases O5:lo=hi
   ·subst O5;refine⟨by omega,?_⟩;simp
   ·have bP:mx.getD c≠lo:=by
     cases mx with
     | none=>simp;omega
     | some x=>have:=h3 x rfl;simp;omega
    rw [if_neg bP,adw]at he;obtain⟨UO,rfl,rfl⟩:=he;obtain⟨g1,g2⟩:=hv UO rfl;refine⟨fun _=>?_,fun j u hu=>?_⟩
    ·have:=g1 (by omega);unfold Addr.add;split
     ·exact this
     ·rfl
    ·rw [List.getElem?_take]at hu;split at hu
     ·rw [List.getElem?_drop]at hu;have:=g2 _ _ hu;rw [←this,c9]
     ·cases hu
 ·rintro k ⟨hk,mg⟩;refine(hS k).2 ⟨?_,.inr (by omega)⟩;unfold aC at hk;simp only [Value.ownBlock]at hk ⊢;cases a with
  | none=>have:=hn rfl;omega
  | some ad=>
   have hb:(ad.add (lo*s)).block=ad.block:=by unfold Addr.add;split<;>rfl
   by_cases hc:mx.getD c=lo
   ·rw [if_pos hc]at hk;exact hk
   ·rw [if_neg hc]at hk;simp only [Option.map_some,hb]at hk;exact hk
theorem ay.sub{B:List HP}{t s n lo hi:Nat}{mx:Option Nat}{v:Value}{cs:List Value}(hb:ay B (au false t s v n cs))(h1:lo≤hi)(h2:hi≤n)(h3: ∀m,mx=some m→hi≤m):
  ay B (au false t s (aC s v lo hi mx) (hi - lo) ((cs.drop (lo*s)).take ((hi - lo)*s))):=hb.map rfl fun _ _ h=>Ma h h1 h2 h3
theorem ay.row{b t lo n m:Nat}{wr:Bool}{cs:List Value}(h1:lo+n≤cs.length)(h2:n≤m):
  ay [aq b wr cs] (au false t 1 (.slice (some ⟨b,lo,none⟩) n m) n ((cs.drop lo).take n)):=by
 refine⟨rfl,fun w S h=>?_⟩;obtain⟨⟨hs,ty,fz,hb,_⟩,_⟩:=h.at_ 0 _ rfl;refine⟨fun k=>k=b∧0<n,⟨?_,fun k=>?_⟩,fun k hk=>⟨0,by simp,(hs k).2 hk.1⟩⟩
 ·simp only [Bool.false_eq_true,if_false];refine⟨by rw [List.length_take,List.length_drop];omega,_,_,_,rfl,rfl,h2,by simp,?_⟩;intro ad he;cases he;refine⟨fun _=>rfl,fun j u hu=>?_⟩;rw [List.getElem?_take]at hu;split at hu
  ·rw [List.getElem?_drop]at hu;have hx:=hu;have hA:(⟨b,lo,none⟩:Addr).add j=⟨b,lo+j,none⟩:=by
    unfold Addr.add;by_cases h0:j=0
    ·rw [if_pos h0,h0];rfl
    ·rw [if_neg h0]
   rw [hA];simp only [World.cell?,hb];simpa using hx
  ·cases hu
 ·simp [Value.ownBlock,eq_comm]
def ends(k m:Nat)(hs:List HP):List HP:=hs.take k++(hs.drop k).drop ((hs.drop k).length - m)
theorem Mb(k m:Nat)(hs:List HP):(ends k m hs).Sublist hs:=by
 unfold ends
 conv=>rhs;rw [←List.take_append_drop k hs]
 exact List.Sublist.append (List.Sublist.refl _) (List.drop_sublist _ _)
theorem ay.nil{B:List HP}{t s:Nat}:ay B (au false t s (.slice none 0 0) 0 []):=by
 refine⟨rfl,fun w S _=>⟨fun _=>False,⟨?_,fun k=>by simp⟩,fun _ h=>h.elim⟩⟩;simp only [Bool.false_eq_true,if_false];refine⟨by simp,none,0,0,rfl,rfl,Nat.le_refl _,fun _=>rfl,?_⟩;intro ad h;cases h
theorem ar.iV{P:Program}{f:Nat}{args:List Value}{A B L:List HP}{Q:Value→List HP→Prop}(hm:ar P f args (A++L) fun v hs=> ∃nw,Q v nw∧hs=A++nw)(hA: ∀h∈A,h.wr=true)(hQ: ∀v nw,Q v nw→∀h∈nw,h.wr=true)(hL: ∀h∈L,ay B h):
  ar P f args (A++B) fun v hs=> ∃nw,Q v nw∧hs=A++B++nw:=by
 refine ar.post (ar.Pl hm ?_ hL) ?_
 ·rintro v hs ⟨nw,hq,rfl⟩ h hh;rcases List.mem_append.1 hh with hh | hh
  ·exact hA h hh
  ·exact hQ v nw hq h hh
 ·rintro v hs ⟨BM,⟨nw,hq,rfl⟩,rfl⟩;refine⟨A++B++nw,bU.perm ?_,nw,hq,rfl⟩;rw [List.append_assoc,List.append_assoc];exact List.Perm.append_left A List.perm_append_comm
open Go.Proofs
section
variable {C:Ctx} {f:Nat} {fd:Func} (args:List SV) (hp:List Ck) (aX:cG) (ρ:Env) {ax:Value→List HP→Prop} {s:Prop}
theorem NU(hf:Try.prog.funcs[f]? =some fd)(hv:VC adE (fun v _=>ax v []) (gS C f args hp aX fd) ρ (fun _=>LC.none)=s)(h:s)(hT:bC adE C.T=true:=by exact FN)(AB:bL adE C.FT:=by exact qv)(hl:fg ρ aX:=by constructor<;>rfl)
  (Em:fI adE C:=by exact fI.none rfl):ar adE f (SV.vals ρ args) (hp.map (Ck.den ρ)) ax:=
 ar.post (ar.kH (C:=C) hT AB FO hf hl rfl hv h Em) fun _ hs hq=>⟨_,bU.sub (List.nil_sublist hs),hq⟩
theorem s5(k m:Nat)(hf:Try.prog.funcs[f]? =some fd)(hv:VC adE (fun v hs=>ax v (ends k m hs)) (gS C f args hp aX fd) ρ (fun _=>LC.none)=s)(h:s)(hT:bC adE C.T=true:=by exact FN)(AB:bL adE C.FT:=by exact qv)(hl:fg ρ aX:=by constructor<;>rfl)
  (Em:fI adE C:=by exact fI.none rfl):ar adE f (SV.vals ρ args) (hp.map (Ck.den ρ)) ax:=
 ar.post (ar.kH (C:=C) hT AB FO hf hl rfl hv h Em) fun _ hs hq=>⟨_,bU.sub (Mb k m hs),hq⟩
theorem Bf(k:Nat)(hf:Try.prog.funcs[f]? =some fd)(hv:VC adE (fun v hs=>ax v (hs.take k)) (gS C f args hp aX fd) ρ (fun _=>LC.none)=s)(h:s)(hT:bC adE C.T=true:=by exact FN)(AB:bL adE C.FT:=by exact qv)(hl:fg ρ aX:=by constructor<;>rfl)
  (Em:fI adE C:=by exact fI.none rfl):ar adE f (SV.vals ρ args) (hp.map (Ck.den ρ)) ax:=
 ar.post (ar.kH (C:=C) hT AB FO hf hl rfl hv h Em) fun _ hs hq=>⟨_,bU.sub (List.take_sublist k hs),hq⟩
theorem NQ(hf:Try.prog.funcs[f]? =some fd)(hv:VC adE ax (gS C f args hp aX fd) ρ (fun _=>LC.none)=s)(h:s)(hT:bC adE C.T=true:=by exact FN)(AB:bL adE C.FT:=by exact qv)(hl:fg ρ aX:=by constructor<;>rfl)
  (Em:fI adE C:=by exact fI.none rfl):ar adE f (SV.vals ρ args) (hp.map (Ck.den ρ)) ax:=
 ar.kH (C:=C) hT AB FO hf hl rfl hv h Em
end
abbrev bo(v:V1)(n:Int)(A:Nat→Int):HP:=au true 5 1 v.v n.toNat (aK n.toNat [aJ .u8 1 A])
abbrev bi(v:V1)(n:Int)(A:Nat→Int):HP:=au false 5 1 v.v n.toNat (aK n.toNat [aJ .u8 1 A])
abbrev bn(md:Bool)(v:V1)(n:Nat)(A:Nat→Int):HP:=au md 5 1 v.v n (aK n [aJ .u8 1 A])
abbrev PT:=Value→List HP→Prop
abbrev Cl(f:Nat)(a:List Value)(L:List HP)(K:Value→List HP→List HP→Prop):Prop:= ∃post,ar adE f a L post∧∀x hs,post x hs→K x hs L
abbrev eJ(x:Int)(p:Prop):Prop:=aw (-9223372036854775808≤x) (aw (x≤9223372036854775807) p)
abbrev fx(x:Int)(p:Prop):Prop:=aw (x≤140737488355328) p
end Go.RX

namespace Go.RX.Fe
open Go.RX
def rowOf(n:Nat)(cs:List SV)(h:List Ck):List Ck:=
 match h.reverse.findIdx? (fun | .row _ _ x=>SV.oW x==n | _=>false)with
 | some i=>match h.reverse[i]? with
  | some (.row b w _)=>(h.reverse.set i (.row b w cs)).reverse
  | _=>h
 | none=>h
def w4(a:Nat):List bS:=[⟨.int .u8,4,.aO a⟩]
def Mc:bq:={use:=fun _ _=>[],inc:={a:=2},val:=fun c=> .oJ [.agg [.cD .u8 255 (.aO c.a)],.agg [.cD .i64 256 (.aO (c.a+1))]],new:=fun _ _=>[]}
def Pm:bq:={use:=fun _ _=>[],inc:={a:=1},val:=fun c=> .agg [.cD .u8 256 (.aO c.a)],new:=fun _ _=>[]}
def cb(f:Nat):Option bq:=
 match f with
 | 46=>some Mc
 | 22=>some Pm
 | _=>none
def XF(c:cG):Ck→Ck
 | .bu true _ 73 4 _ _=> .bu true c.v 73 4 (.var c.i) (w4 c.a)
 | .row b w [x,_]=> .row b w [x,.vv c.v]
 | h=>h
def Sk(b:Nat)(e:E)(h:List Ck):List Ck:=
 match h.reverse.findIdx? (fun | .row _ _ [.int .i64 _]=>true | _=>false)with
 | some i=>(h.reverse.set i (.row b true [.int .i64 e])).reverse
 | none=>h
def Pn(c:cG)(h:List Ck):List Ck:=Sk c.b (.var c.i) (rowOf 16 [.cD .u8 16 (.aO c.a)] (h.map fun | .qu _=> .qu (c.b+1) | x=>x))
def loops(f id:Nat):Option iW:=
 match f,id with
 | 46,0=>some {inc:={i:=2,a:=2},aV:=fun c=>[(4,.int .i64 (.var c.i)),(2,.int .u8 (.var (c.i+1)))],hp:=fun c h=>(rowOf 255 [.cD .u8 255 (.aO c.a)] (rowOf 256 [.cD .i64 256 (.aO (c.a+1))] h))}
 | 22,0=>some {inc:={i:=1,a:=1},aV:=fun c=>[(11,.int .i64 (.var c.i))],hp:=fun c h=>rowOf 256 [.cD .u8 256 (.aO c.a)] h}
 | 10,0=>some {pre:=[.cell 1 1 73],inc:={i:=2,a:=1,v:=1},aV:=fun c=>[(26,.int .i64 (.var c.i)),(6,.int .u8 (.var (c.i+1)))],hp:=fun c h=>h.map (XF c)}
 | 11,2=>some {pre:=[.marks],back:=[.mark,.swap 8 19],ds:=fun c _=>[.many (c.b+1)],inc:={i:=1,a:=1,b:=2},aV:=fun c=>[(8,.ptr c.b 0)],hp:=Pn}
 | _,_=>none
def H7:List Ck:=[.row 0 true [.cD .u8 256 (.aO 0),.vv 0],.bu true 0 73 4 (.var 0) (w4 1)]
end Go.RX.Fe
