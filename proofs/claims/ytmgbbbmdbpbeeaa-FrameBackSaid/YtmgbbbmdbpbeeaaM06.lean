/- Executor. -/
import Derived.Test.YtmgbbbmdbpbeeaaM05
import Derived.Maps.AppendAt
import Derived.Great.BuildSlice
open Bool renaming and_eq_true → ai
open Go.IntKind renaming wrap → ae
open Go.Op renaming equalIn → ad4
open Go.Result renaming andThen_ok → adC
open Go.Sem renaming run_bind → adL, run_pure → ad_
open List renaming map_cons → adT, mem_singleton → aea
open Nat renaming mod_eq_of_lt → adQ
open Option renaming map_eq_some_iff → adw
open Option.some renaming injEq → adv
namespace Go.RX
theorem tB(k:IntKind)(n:Int)(h:IntKind.lo k≤n)(h':n≤IntKind.hi k):k.wrap n=n:=by
 cases k<;>simp only [IntKind.lo,IntKind.hi]at h h'<;>simp [ae,IntKind.bits,IntKind.signed]<;>omega
section
variable {P:Program} {ρ:Env} {w:World}
theorem xF{k:IntKind}{e:E}(bV: ∀b∈(xG k e).2,b.prop ρ):(xG k e).1.den ρ 0=k.wrap (e.den ρ 0):=by
 unfold xG at bV ⊢;split
 ·rfl
 ·split
  ·rename_i hs;simp only [hs,if_true]at bV;have h1:=bV (.le (.lit (IntKind.lo k)) e) (by simp);have h2:=bV (.le e (.lit (IntKind.hi k))) (by simp);simp only [BE.prop,E.den]at h1 h2;exact(tB k _ h1 h2).symm
  ·rfl
theorem LA(k:IntKind)(e:E):xH k e=xG k e∨xH k e=(.wrap k e,[]):=by
 unfold xH;split
 ·split
  ·exact .inr rfl
  ·exact .inl rfl
 ·exact .inl rfl
theorem Ju{k:IntKind}{e:E}(bV: ∀b∈(xH k e).2,b.prop ρ):(xH k e).1.den ρ 0=k.wrap (e.den ρ 0):=by
 rcases LA k e with h | h
 ·rw [h]at bV ⊢;exact xF bV
 ·rw [h];rfl
theorem jU: ∀{l:List SV} {L:List fJ},o6 l L=true→eR (SV.aB ρ l) L
 | [],[],_=>trivial
 | [],k::L,h=>by simp [o6]at h
 | x::r,L,h=>by
  unfold o6 at h;split at h
  ·rename_i heq;cases heq
  ·rename_i k e r' k' l heq;cases heq;simp only [ai,beq_iff_eq]at h;exact⟨h.1,jU h.2⟩
  ·rename_i b r' l heq;cases heq;exact jU (l:=r) h
  ·rename_i L k n a r' heq;cases heq;simp only [ai,decide_eq_true_eq]at h;obtain⟨⟨h1,h2⟩,h3⟩:=h;have ih:=jU (l:=r) h3;simp only [SV.aB,SV.cells];have key: ∀(m:Nat) (f:Nat→Int) (L:List fJ) (xs:List Value),m≤L.length→(L.take m).all (· ==some k)=true→eR xs (L.drop m)→eR (aj k m f++xs) L:=by
    intro m
    induction m with
    | zero=>intro f L xs _ _ hf;simpa [aj] using hf
    | succ m ihm=>
     intro f L xs hle tC hf;cases L with
     | nil=>simp at hle
     | cons c L=>
      simp only [List.take_succ_cons,List.all_cons,ai,beq_iff_eq,List.drop_succ_cons,List.length_cons]at tC hf hle;have hc:=tC.1;subst hc;have:aj k (m+1) f= .int k (f 0)::aj k m (fun j=>f (j+1)):=by
       unfold aj;rw [List.range_succ_eq_map,adT,List.map_map];rfl
      rw [this];exact⟨rfl,ihm _ L xs (by omega) tC.2 hf⟩
   exact key n _ _ _ h1 h2 ih
  ·cases h
theorem O0(k:IntKind)(n:Nat)(f g:Nat→Int)(a b:List Value):
  qZ (aj k n f++a) (aj k n g++b)=((List.range n).all (fun j=>f j==g j)&&qZ a b):=by
 induction n generalizing f g with
 | zero=>simp [aj]
 | succ n ih=>
  have e: ∀h:Nat→Int,aj k (n+1) h= .int k (h 0)::aj k n (fun j=>h (j+1)):=by
   intro h;unfold aj;rw [List.range_succ_eq_map,adT,List.map_map];rfl
  rw [e f,e g,List.cons_append,List.cons_append,qZ,ih,List.range_succ_eq_map,List.all_cons,List.all_map,Bool.and_assoc];rfl
theorem jV: ∀{a b:List SV} {c:BE},kB a b=some c→c.den ρ=qZ (SV.aB ρ a) (SV.aB ρ b)
 | [],[],c,h=>by simp [kB]at h;subst h;rfl
 | [],y::s,c,h=>by simp [kB]at h
 | x::r,b,c,h=>by
  unfold kB at h;split at h
  ·rename_i heq;exact absurd heq (by simp)
  ·rename_i k e r' k' e' s heq;cases heq;split at h
   ·rename_i hk;subst hk;rw [adw]at h;obtain⟨d,hd,rfl⟩:=h;rw [mO,pT,jV hd];rfl
   ·cases h
  ·rename_i p r' q s heq;cases heq;rw [adw]at h;obtain⟨d,hd,rfl⟩:=h;rw [mO,mP,cX,jV hd];simp only [SV.aB,SV.cells,List.singleton_append,qZ];cases p.den ρ<;>cases q.den ρ<;>rfl
  ·rename_i k n e r' k' n' e' s heq;cases heq;split at h
   ·rename_i hk;obtain⟨rfl,rfl⟩:=hk;rw [adw]at h;obtain⟨d,hd,rfl⟩:=h;rw [mO,jV hd];simp only [SV.aB,SV.cells];rw [O0];congr 1;split
    ·rename_i he;subst he;simp [BE.den]
    ·rfl
   ·cases h
  ·cases h
theorem uP(k:IntKind)(a:E): ∀(l:List Nat),SV.aB ρ (l.map fun j=>SV.int k (fP a (.lit (j:Nat))))=l.map fun j=>Value.int k (a.den ρ j)
 | []=>rfl
 | x::r=>by simp only [adT,SV.aB,SV.cells,dL,cE,Int.toNat_natCast,List.singleton_append,uP k a r]
theorem jG: ∀(l:List SV),SV.aB ρ (lK l)=SV.aB ρ l
 | []=>rfl
 | v::r=>by
  unfold lK;split
  ·rename_i h;cases h
  ·rename_i k n a r' h;cases h;rw [gU,uP,jG r];rfl
  ·rename_i v' r' _ h;cases h;simp only [SV.aB,jG r]
theorem rZ{a b:List SV}{c:BE}(h:xI a b=some c):c.den ρ=qZ (SV.aB ρ a) (SV.aB ρ b):=by
 unfold xI at h;split at h
 ·rename_i c' hc;cases h;exact jV hc
 ·rw [jV h,jG,jG]
theorem vQ(op:BinOp)(t:TypeId)(x y:Operand)(k k':IntKind)(a b:Int):(eqGuard op t x y (.int k a) (.int k' b)).run P w= .ok () w:=by
 cases op<;>simp [eqGuard]
theorem mX(op:BinOp)(t:TypeId)(x y:Operand)(a b:Bool):(eqGuard op t x y (.bool a) (.bool b)).run P w= .ok () w:=by
 cases op<;>simp [eqGuard]
def pV:Value→Bool
 | .nilIface=>false
 | .agg _=>false
 | _=>true
theorem cO(op:BinOp)(t:TypeId)(x y:Operand)(a b:Value)(h:pV a=true):(eqGuard op t x y a b).run P w= .ok () w:=by
 cases op<;>cases a<;>simp_all [eqGuard,pV]
theorem eg{b:E}(h: ∀c∈nI b,c.prop ρ):0≤b.den ρ 0:=by
 by_cases hl:wo (.lit 0) b= .lit true
 ·have:(wo (.lit 0) b).den ρ=true:=by rw [hl];rfl
  rw [gp]at this;exact of_decide_eq_true this
 ·have:=h (wo (.lit 0) b) (by unfold nI;simp [hl]);rw [←BE.bX,gp]at this;exact of_decide_eq_true this
theorem O1(k yk:IntKind)(x y:Int)(h:0≤y):(Op.shift .shl k x yk y).run P w= .ok (.int k (k.wrap (x*2^min y.toNat k.bits))) w:=by
 simp [Op.shift,Int.not_lt.2 h]
theorem O2(k yk:IntKind)(x y:Int)(h:0≤y):(Op.shift .shr k x yk y).run P w= .ok (.int k (x.fdiv (2^min y.toNat k.bits))) w:=by
 simp [Op.shift,Int.not_lt.2 h]
theorem Gk(ti:TI){o:BinOp}{k k':IntKind}{a b:E}{res:gx}(h:mh ti o (.int k a) (.int k' b)=some res)(bV: ∀b∈res.vcs,b.prop ρ)(t:TypeId):
  (binOp o t (.int k (a.den ρ 0)) (.int k' (b.den ρ 0))).run P w= .ok (res.val.val ρ) w∧res.gg= .none:=by
 cases o<;>simp only [mh]at h
 case shl=>
  simp only [adv]at h;subst h;exact⟨by simp only [binOp];rw [O1 _ _ _ _ (eg bV),SV.val,kV];rfl,rfl⟩
 case shr=>
  simp only [adv]at h;subst h;exact⟨by simp only [binOp];rw [O2 _ _ _ _ (eg bV),SV.val,kV];rfl,rfl⟩
 all_goals
  split at h
  ·cases h
  ·rename_i hk;simp only [ne_eq,Decidable.not_not]at hk;subst hk
   first
   | (simp at h;done)
   | (
     simp only [adv]at h;subst h;refine⟨?_,rfl⟩
     first
     | (simp only [binOp,ne_eq,not_true_eq_false,if_false,Op.intCmp,ad_,SV.val,pT,cX,rW,gp];first | done | rfl)
     | (simp only [binOp,ne_eq,not_true_eq_false,if_false,Op.intBits,ad_,SV.val,kV];rfl)
     | (simp only [binOp,ne_eq,not_true_eq_false,if_false,Op.intArith,ad_,SV.val,xF bV,bH,dX,fl])
     | (
      have Zi:=bV (OU b) (by simp);rw [←BE.bX,wm]at Zi;have W8:b.den ρ 0≠0:=by simpa using Zi
      simp [binOp,Op.intDiv,W8,SV.val,Jq,kV,ak]))
theorem bf{ti:TI}{o:BinOp}{xo yo:Operand}{u v:Value}{r:Result Value}(hg:(eqGuard o ti.t xo yo u v).run P w= .ok () w)(h:(binOp o ti.t u v).run P w=r):
  (do eqGuard o ti.t xo yo u v;binOp o ti.t u v:Sem Value).run P w=r:=by
 simp only [adL,hg,adC,h]
theorem DY{t:TypeId}(ht:P.underlying t=some .bool)(a b:Bool):(binOp .eql t (.bool a) (.bool b)).run P w= .ok (.bool (a==b)) w:=by
 simp [binOp,Op.equal,Op.maxDepth,run_equalIn_bool' w 9999 t a b ht]
theorem DZ{t:TypeId}(ht:P.underlying t=some .bool)(a b:Bool):(binOp .neq t (.bool a) (.bool b)).run P w= .ok (.bool (!(a==b))) w:=by
 simp [binOp,Op.equal,Op.maxDepth,run_equalIn_bool' w 9999 t a b ht]
theorem dc{t:TypeId}{x y:Value}{b:Bool}(hb:binOp .eql t x y=(do pure (.bool (←Op.equal t x y)):Sem Value))(h: ∀d,(ad4 (d+1) t x y).run P w= .ok b w):
  (binOp .eql t x y).run P w= .ok (.bool b) w:=by
 have:(Op.equal t x y).run P w= .ok b w:=h 9999;rw [hb];simp only [adL,this,adC,ad_]
theorem de{t:TypeId}{x y:Value}{b:Bool}(hb:binOp .neq t x y=(do pure (.bool (!(←Op.equal t x y))):Sem Value))(h: ∀d,(ad4 (d+1) t x y).run P w= .ok b w):
  (binOp .neq t x y).run P w= .ok (.bool (!b)) w:=by
 have:(Op.equal t x y).run P w= .ok b w:=h 9999;rw [hb];simp only [adL,this,adC,ad_]
theorem ei{u:Option TypeDesc}{e:Nat}(h:gu u (.ptr e)=true):u=some (.pointer e):=by
 cases u with
 | none=>simp [gu]at h
 | some d=>cases d<;>simp_all [gu]
theorem bI{u:Option TypeDesc}{e:Nat}(h:gu u (.slice e)=true):u=some (.slice e):=by
 cases u with
 | none=>simp [gu]at h
 | some d=>cases d<;>simp_all [gu]
theorem mY{u:Option TypeDesc}{n e:Nat}(h:gu u (.arr n e)=true):u=some (.array n e):=by
 cases u with
 | none=>simp [gu]at h
 | some d=>cases d<;>simp_all [gu]
theorem iR{u:Option TypeDesc}{k:IntKind}(h:gu u (.int k)=true):u=some (.int k):=by
 cases u with
 | none=>simp [gu]at h
 | some d=>cases d<;>simp_all [gu]
theorem lL{u:Option TypeDesc}{l:List (Nat×Nat)}(h:gu u (.struct l)=true): ∃fs:Array Field,u=some (.struct fs)∧fs.toList.map (fun f=>(f.type,f.offset))=l:=by
 cases u with
 | none=>simp [gu]at h
 | some d=>cases d<;>simp_all [gu]
theorem tD{u:Option TypeDesc}(h:gu u .func=true): ∃a b c,u=some (.func a b c):=by
 cases u with
 | none=>simp [gu]at h
 | some d=>cases d<;>simp_all [gu]
theorem O3{t:TypeId}{e:Nat}(hu:P.underlying t=some (.pointer e))(d:Nat):
  (ad4 (d+1) t (.pointer none) (.pointer none)).run P w= .ok true w:=by
 have uO:=run_underlying hu w;rw [ad4];simp only [adL,uO,adC];rfl
theorem LB{t:TypeId}{e:Nat}{a:Addr}(hu:P.underlying t=some (.pointer e))(d:Nat):
  (ad4 (d+1) t (.pointer none) (.pointer (some a))).run P w= .ok false w:=by
 have uO:=run_underlying hu w;rw [ad4];simp only [adL,uO,adC];rfl
theorem LD{t:TypeId}{e:Nat}{a:Addr}(hu:P.underlying t=some (.pointer e))(d:Nat):
  (ad4 (d+1) t (.pointer (some a)) (.pointer none)).run P w= .ok false w:=by
 have uO:=run_underlying hu w;rw [ad4];simp only [adL,uO,adC];rfl
theorem Uc{t:TypeId}{e n m n' m':Nat}(hu:P.underlying t=some (.slice e))(d:Nat):
  (ad4 (d+1) t (.slice none n m) (.slice none n' m')).run P w= .ok true w:=by
 have uO:=run_underlying hu w;rw [ad4];simp only [adL,uO,adC];rfl
theorem Ud{t:TypeId}{e n m n' m':Nat}{a:Addr}(hu:P.underlying t=some (.slice e))(d:Nat):
  (ad4 (d+1) t (.slice none n m) (.slice (some a) n' m')).run P w= .ok false w:=by
 have uO:=run_underlying hu w;rw [ad4];simp only [adL,uO,adC];rfl
theorem Ue{t:TypeId}{e n m n' m':Nat}{a:Addr}(hu:P.underlying t=some (.slice e))(d:Nat):
  (ad4 (d+1) t (.slice (some a) n m) (.slice none n' m')).run P w= .ok false w:=by
 have uO:=run_underlying hu w;rw [ad4];simp only [adL,uO,adC];rfl
theorem Uf{t:TypeId}{x:Array TypeId}{y:Array TypeId}{z:Bool}(hu:P.underlying t=some (.func x y z))(d:Nat):
  (ad4 (d+1) t .nilFunc .nilFunc).run P w= .ok true w:=by
 have uO:=run_underlying hu w;rw [ad4];simp only [adL,uO,adC];rfl
theorem Ug{t:TypeId}{x:Array TypeId}{y:Array TypeId}{z:Bool}{f:Fn}{a b:Array Value}(hu:P.underlying t=some (.func x y z))(d:Nat):
  (ad4 (d+1) t .nilFunc (.func f a b)).run P w= .ok false w:=by
 have uO:=run_underlying hu w;rw [ad4];simp only [adL,uO,adC];rfl
theorem Uh{t:TypeId}{x:Array TypeId}{y:Array TypeId}{z:Bool}{f:Fn}{a b:Array Value}(hu:P.underlying t=some (.func x y z))(d:Nat):
  (ad4 (d+1) t (.func f a b) .nilFunc).run P w= .ok false w:=by
 have uO:=run_underlying hu w;rw [ad4];simp only [adL,uO,adC];rfl
theorem Ui{t:TypeId}{e:Nat}(hu:P.underlying t=some (.pointer e))(y:Int)(d:Nat):
  (ad4 (d+1) t (.pointer none) (mM y)).run P w= .ok (y==0) w:=by
 unfold mM;split
 ·rename_i h;subst h;exact O3 hu d
 ·rename_i h;rw [show(y==(0:Int))=false by simpa using h];exact LB hu d
theorem Uj{t:TypeId}{e:Nat}(hu:P.underlying t=some (.pointer e))(y:Int)(d:Nat):
  (ad4 (d+1) t (mM y) (.pointer none)).run P w= .ok (y==0) w:=by
 unfold mM;split
 ·rename_i h;subst h;exact O3 hu d
 ·rename_i h;rw [show(y==(0:Int))=false by simpa using h];exact LD hu d
theorem Jv(y:Int):pV (mM y)=true:=by unfold mM;split<;>rfl
theorem Ao{ti:TI}(cF:jS P ti){x y:SV}{c:BE}(h:ptrEq ti.k x y=some c):
  pV (x.val ρ)=true∧(binOp .eql ti.t (x.val ρ) (y.val ρ)).run P w= .ok (.bool (c.den ρ)) w∧(binOp .neq ti.t (x.val ρ) (y.val ρ)).run P w= .ok (.bool (!c.den ρ)) w:=by
 have hk:=cF.kind;generalize ti.k=kk at h hk;unfold ptrEq at h;split at h
 ·cases h;exact⟨rfl,dc rfl fun d=>O3 (ei hk) d,de rfl fun d=>O3 (ei hk) d⟩
 ·cases h;exact⟨rfl,dc rfl fun d=>LB (ei hk) d,de rfl fun d=>LB (ei hk) d⟩
 ·cases h;exact⟨rfl,dc rfl fun d=>LD (ei hk) d,de rfl fun d=>LD (ei hk) d⟩
 ·cases h;exact⟨rfl,dc rfl fun d=>LB (ei hk) d,de rfl fun d=>LB (ei hk) d⟩
 ·cases h;exact⟨rfl,dc rfl fun d=>LD (ei hk) d,de rfl fun d=>LD (ei hk) d⟩
 ·cases h;exact⟨rfl,dc rfl fun d=>by rw [pT];exact Ui (ei hk) _ d,de rfl fun d=>by rw [pT];exact Ui (ei hk) _ d⟩
 ·cases h;exact⟨Jv _,dc (by simp only [SV.val];unfold mM;split<;>rfl) fun d=>by rw [pT];exact Uj (ei hk) _ d,de (by simp only [SV.val];unfold mM;split<;>rfl) fun d=>by rw [pT];exact Uj (ei hk) _ d⟩
 ·cases h;exact⟨rfl,dc rfl fun d=>Uc (bI hk) d,de rfl fun d=>Uc (bI hk) d⟩
 ·cases h;exact⟨rfl,dc rfl fun d=>Ud (bI hk) d,de rfl fun d=>Ud (bI hk) d⟩
 ·cases h;exact⟨rfl,dc rfl fun d=>Ue (bI hk) d,de rfl fun d=>Ue (bI hk) d⟩
 ·cases h;obtain⟨_,_,_,hu⟩:=tD hk;exact⟨rfl,dc rfl fun d=>Uf hu d,de rfl fun d=>Uf hu d⟩
 ·cases h;obtain⟨_,_,_,hu⟩:=tD hk;exact⟨rfl,dc rfl fun d=>Ug hu d,de rfl fun d=>Ug hu d⟩
 ·cases h;obtain⟨_,_,_,hu⟩:=tD hk;exact⟨rfl,dc rfl fun d=>Uh hu d,de rfl fun d=>Uh hu d⟩
 ·cases h
theorem pW(l:List UInt8):(⟨l.toArray⟩:ByteArray).toList=l:=by rw [ByteArray.toList_eq]
theorem uQ(t:TypeId)(a b:List UInt8):(binOp .eql t (.string ⟨a.toArray⟩) (.string ⟨b.toArray⟩)).run P w= .ok (.bool (a==b)) w:=by
 rw [binOp_string_eql,pW,pW];rfl
theorem uR(t:TypeId)(a b:List UInt8):(binOp .neq t (.string ⟨a.toArray⟩) (.string ⟨b.toArray⟩)).run P w= .ok (.bool (!(a==b))) w:=by
 rw [binOp_string_neq,pW,pW];rfl
theorem Jw(a b:List UInt8):(⟨a.toArray⟩:ByteArray)++⟨b.toArray⟩=⟨(a++b).toArray⟩:=by
 apply ByteArray.ext;rw [ByteArray.data_append];simp
theorem uS(t:TypeId)(a b:List UInt8)(h:a.length+b.length≤9223372036854775807):(binOp .add t (.string ⟨a.toArray⟩) (.string ⟨b.toArray⟩)).run P w= .ok (.string ⟨(a++b).toArray⟩) w:=by
 rw [binOp_string_add,run_string_add_sum w _ _ (by simpa [ByteArray.size] using h),Jw]
theorem Gl{ti:TI}{o:BinOp}{xo yo:Operand}{x y:SV}{res:gx}(h:tE o x y=some res)(bV: ∀b∈res.vcs,b.prop ρ):
  (do eqGuard o ti.t xo yo (x.val ρ) (y.val ρ);binOp o ti.t (x.val ρ) (y.val ρ):Sem Value).run P w= .ok (res.val.val ρ) w∧res.gg= .none:=by
 unfold tE at h;split at h
 ·rename_i a b;split at h
  ·split at h
   ·rename_i hl;cases h;exact⟨bf (cO _ _ _ _ _ _ rfl) (uS _ _ _ (by omega)),rfl⟩
   ·cases h
  ·cases h;exact⟨bf (cO _ _ _ _ _ _ rfl) (uQ _ _ _),rfl⟩
  ·cases h;exact⟨bf (cO _ _ _ _ _ _ rfl) (uR _ _ _),rfl⟩
  ·cases h
 ·split at h
  ·rename_i a b ha hb;have ea:=qW ρ ha;have eb:=qW ρ hb;rw [ea,eb];split at h
   ·cases h;have n1:0≤(jQ a).den ρ 0:=eg (b:=jQ a) fun c hc=>bV c (List.mem_append_left _ (List.mem_append_left _ hc))
    have n2:0≤(jQ b).den ρ 0:=eg (b:=jQ b) fun c hc=>bV c (List.mem_append_left _ (List.mem_append_right _ hc))
    have n3:=bV _ (List.mem_append_right _ (aea.2 rfl));rw [←BE.bX,gp]at n3;have n3:=of_decide_eq_true n3;rw [bH]at n3;rw [fm]at n1 n2 n3;rw [fm]at n3;simp only [cE]at n3;refine⟨bf (cO _ _ _ _ _ _ rfl) ?_,rfl⟩;rw [uS _ _ _ (by rw [cu,cu];omega),SV.val,Lu ρ a b n1 n2]
   ·cases h;refine⟨bf (cO _ _ _ _ _ _ rfl) ?_,rfl⟩;rw [uQ,SV.val,DQ]
   ·cases h;refine⟨bf (cO _ _ _ _ _ _ rfl) ?_,rfl⟩;rw [uR,SV.val,cX,DQ]
   ·cases h
  ·cases h
theorem Jx{ti:TI}(cF:jS P ti){o:BinOp}{xo yo:Operand}{x y:SV}{res:gx}(h:mh ti o x y=some res)(bV: ∀b∈res.vcs,b.prop ρ):
  (do eqGuard o ti.t xo yo (x.val ρ) (y.val ρ);binOp o ti.t (x.val ρ) (y.val ρ):Sem Value).run P w= .ok (res.val.val ρ) w∧res.gg= .none:=by
 cases x with
 | int k a=>
  cases y with
  | int k' b=>
   obtain⟨h1,h2⟩:=Gk (w:=w) ti h bV ti.t;exact⟨bf (vQ _ _ _ _ _ _ _ _) h1,h2⟩
  | _=>simp [mh,ptrEq,tE,oV]at h
 | bool a=>
  cases y with
  | bool b=>
   simp only [mh]at h;split at h
   ·cases h
   ·rename_i hk;simp only [ne_eq,Decidable.not_not]at hk;have cL:=cF.kind;rw [hk]at cL;have hu:P.underlying ti.t=some .bool:=by
     unfold gu at cL;split at cL<;>simp_all
    split at h
    ·simp only [adv]at h;subst h;refine⟨bf (mX _ _ _ _ _ _) ?_,rfl⟩;rw [SV.val,SV.val,DY hu,SV.val,mP,cX];cases a.den ρ<;>cases b.den ρ<;>rfl
    ·simp only [adv]at h;subst h;refine⟨bf (mX _ _ _ _ _ _) ?_,rfl⟩;rw [SV.val,SV.val,DZ hu,SV.val,cX,mP,cX];cases a.den ρ<;>cases b.den ρ<;>rfl
    ·cases h
  | _=>simp [mh,ptrEq,tE,oV]at h
 | agg a=>
  cases y with
  | agg b=>
   simp only [mh]at h;split at h
   ·cases h
   ·rename_i hl;simp only [Bool.or_eq_true,Bool.not_eq_true',not_or,Bool.not_eq_true,Bool.not_eq_false]at hl;obtain⟨⟨⟨HS,Wj⟩,hl2⟩,hl3⟩:=hl;rcases cF.lay with he | ⟨W9,R3⟩
    ·rw [Wj]at he;cases he
    ·have hE:=lJ (P:=P) 9988 12 ti.t _ W9 w _ _ (.agg (SV.aB ρ a).toArray) (.agg (SV.aB ρ b).toArray) (jU (ρ:=ρ) hl2) (jU (ρ:=ρ) hl3);have hV: ∀cs:List Value,C8 P ti.t cs (.agg cs.toArray):=by
      intro cs;have cL:=cF.kind;unfold gu at cL;unfold C8;split at cL
      all_goals first
       | (rename_i hkd;rw [hkd]at HS;simp [TK.agg]at HS;done)
       | (rename_i hu _;rw [hu])
       | cases cL
     have Zj:=hE (hV _) (hV _);have hg: ∀o:BinOp,(eqGuard o ti.t xo yo (.agg (SV.aB ρ a).toArray) (.agg (SV.aB ρ b).toArray)).run P w= .ok () w:=fun o=>run_eqGuard_agg w o ti.t xo yo _ _ R3
     split at h
     ·rename_i c hc;simp only [adv]at h;subst h;refine⟨bf (hg _) ?_,rfl⟩;simp only [SV.val];rw [run_eql_struct,Zj,adC,rZ hc]
     ·rename_i c hc;simp only [adv]at h;subst h;refine⟨bf (hg _) ?_,rfl⟩;simp only [SV.val];rw [run_neq_struct,Zj,adC,cX,rZ hc]
     ·cases h
  | _=>simp [mh,ptrEq,tE,oV]at h
 | _=>
  simp only [mh]at h;split at h
  ·exact Gl h bV
  split at h
  ·rename_i c hc;simp only [adv]at h;subst h;obtain⟨h1,h2,_⟩:=Ao (ρ:=ρ) (w:=w) cF hc;exact⟨bf (cO _ _ _ _ _ _ h1) h2,rfl⟩
  ·rename_i c hc;simp only [adv]at h;subst h;obtain⟨h1,_,h2⟩:=Ao (ρ:=ρ) (w:=w) cF hc;refine⟨bf (cO _ _ _ _ _ _ h1) ?_,rfl⟩;rw [h2];simp [SV.val,cX]
  ·cases h
end
structure r7 (ρ:Env) (look:Nat→Option SV) (vals:Operand→Value):Prop where
 tmp: ∀s v,look s=some v→vals (.tmp s)=v.val ρ
 const: ∀v,vals (.const v)=v
 func: ∀f,vals (.func f)= .func (.func f) #[] #[]
section
variable {P:Program} {ρ:Env} {w:World} {look:Nat→Option SV} {vals:Operand→Value}
theorem ej(h:r7 ρ look vals){x:Operand}{v:SV}(he:hZ look x=some v):vals x=v.val ρ:=by
 cases x with
 | tmp t=>exact h.tmp t v he
 | const c=>rw [h.const];exact(oX ρ c v he).symm
 | global g=>cases he
 | func f=>
  simp only [hZ,adv]at he;subst he;rw [h.func];rfl
theorem jW(h:r7 ρ look vals): ∀(xs:List Operand) (vs:List SV),iS (xs.map (hZ look))=some vs→xs.map vals=SV.vals ρ vs
 | [],vs,he=>by simp [iS]at he;subst he;rfl
 | x::r,vs,he=>by
  simp only [adT]at he;cases hx:hZ look x with
  | none=>rw [hx]at he;simp [iS]at he
  | some v=>
   rw [hx]at he;simp only [iS,adw]at he;obtain⟨rs,oD,rfl⟩:=he;simp only [adT,SV.vals,ej h hx,jW h r rs oD]
inductive eB (ρ:Env):List (Nat×List SV)→List (Nat×Value)→Prop
 | nil:eB ρ [] []
 | cons {i cs v r s}:v.cells.toList=SV.aB ρ cs→eB ρ r s→eB ρ ((i,cs)::r) ((i,v)::s)
theorem nJ(h:r7 ρ look vals)(nr:ρ.Ok): ∀(xs:List (Nat×Operand)) (ps:List (Nat×List SV)),partsOf look xs=some ps→
  eB ρ ps (xs.map fun x=>(x.1,vals x.2))
 | [],ps,he=>by simp [partsOf]at he;subst he;exact .nil
 | (i,x)::r,ps,he=>by
  unfold partsOf at he;split at he
  ·rename_i v rest hv hr;rw [adw]at he;obtain⟨cs,mG,rfl⟩:=he;refine .cons ?_ (nJ h nr r rest hr);rw [ej h hv];exact(gW ρ mG nr).1
  ·cases he
theorem pX(place:Nat→Option (Nat×Nat)): ∀{ps:List (Nat×List SV)} {vs:List (Nat×Value)},eB ρ ps vs→
  ∀{cells zh:List SV} {arr:Array Value},jH place cells ps=some zh→arr.toList=SV.aB ρ cells→
  ∃r,Instr.fill place arr vs=some r∧r.toList=SV.aB ρ zh
 | _,_,.nil,cells,zh,arr,h,ha=>by
  simp only [jH,adv]at h;subst h;exact⟨arr,by rw [Instr.fill],ha⟩
 | _,_,.cons (i:=i) (cs:=cs) (v:=v) (r:=r) (s:=s) hv hr,cells,zh,arr,h,ha=>by
  unfold jH at h;split at h
  ·rename_i off size C9;split at h
   ·rename_i hlen;split at h
    ·rename_i W_ o5;obtain⟨hc,hle⟩:=nF ρ o5;have eL:v.cells.size=size:=by
      rw [←Array.length_toList,hv,bz];exact hlen
     have aa5:arr.size=(SV.aB ρ cells).length:=by rw [←Array.length_toList,ha]
     have dF:(SV.aB ρ cs).length=size:=by rw [←hv];simpa using eL
     obtain⟨g1,g2⟩:=Great.foldl_set off v.cells.toList 0 arr;unfold Instr.fill;simp only [C9,eL];rw [if_neg (by simp;omega)];refine pX place hr h ?_;rw [hc];apply List.ext_getElem?;intro k;rw [Array.getElem?_toList];have e1: ∀(Xa:Array Value),((v.cells.zipIdx).foldl (fun cs (x:Value×Nat)=>cs.setIfInBounds (off+x.2) x.1) Xa)=((v.cells.toList.zipIdx 0).foldl (fun cs (x:Value×Nat)=>cs.setIfInBounds (off+x.2) x.1) Xa):=by
      intro Xa;rw [←Array.foldl_toList,Array.toList_zipIdx]
     have e2:=g2 k;rw [←e1 arr]at e2;refine Eq.trans e2 ?_;simp only [Nat.add_zero,Array.length_toList,eL];rw [List.append_assoc,List.getElem?_append,List.getElem?_append,List.length_take,Nat.min_eq_left (by omega),dF,List.getElem?_take,List.getElem?_drop,←ha,←hv];by_cases h1:k<off
     ·rw [if_neg (by omega),if_pos h1,if_pos h1];simp
     ·rw [if_neg h1];by_cases h2:k<off+size
      ·rw [if_pos ⟨by omega,h2,by omega⟩,if_pos (by omega)]
      ·rw [if_neg (by omega),if_neg (by omega)];have:off+size+(k - off - size)=k:=by omega
       rw [this];simp
    ·cases h
   ·cases h
  ·cases h
end
def Gm(ρ:Env)(nb r:Nat):Ck→Option HP
 | .row b true cs=>if b=nb then some (aq r true (SV.aB ρ cs))else none
 | .map b kl ka va z has aH=>if b=nb then some (uJ r kl ka va (SV.aB ρ z) (fun i=> !(has.den ρ i==0)) fun i=>(aH.map (bS.cells ρ)).flatMap fun c=>c i)else none
 | .r8 b kl ka va z es=>if b=nb then some (uJ r kl ka va (SV.aB ρ z) (fun i=>o7 es i) fun i=>SV.aB ρ (mi es z i))else none
 | .HO b t e n a=>if b=nb then some (QR r t e (aj .u8 (n.den ρ 0).toNat (a.den ρ)))else none
 | .KR b l p=>if b=nb then some (QQ r l p)else none
 | _=>none
def Did(P:Program)(ρ:Env)(w:World)(hp:List Ck)(S:Nat→Nat→Prop)(nb nv:Nat)(run:Result Next)(res:gx):Prop:=
 match res.gg with
 | .none=>run= .ok (.value (res.val.val ρ)) w
 | .new ck=> ∃w' Tt,Gm ρ nb w.heap.size ck=some Tt∧run= .ok (.value (res.val.val (ρ.lC w.heap.size))) w'∧fE w w'∧w'.heap.size=w.heap.size+1∧
   (∀k,k<w.heap.size→w'.heap[k]? =w.heap[k]?)∧Tt.p w' (fun k=>k=w.heap.size)
 | .set j ck=> ∃w',(run= .ok (.value (res.val.val ρ)) w'∨(res.val= .undef∧run= .ok .skip w'))∧HR P w ρ hp S j ck w'
 | .app j ck=> ∃t s n aH v w' S',ck= .bu true nv t s n aH∧res.val= .vv nv∧run= .ok (.value v) w'∧v.oneCell'=true∧
   (∃OY,hp[j]? =some OY∧(OY.den ρ).wr=true)∧fE w w'∧(∀k,k<w.heap.size→¬S j k→w'.heap[k]? =w.heap[k]?)∧
   (au true t s v (n.den ρ 0).toNat (aN ρ (n.den ρ 0).toNat aH)).p w' S'∧∀k,S' k→S j k∨(w.heap.size≤k∧k<w'.heap.size)
 | .own ck=> ∃t s n aH v w' S',ck= .bu true nv t s n aH∧res.val= .vv nv∧run= .ok (.value v) w'∧v.oneCell'=true∧fE w w'∧(∀k,k<w.heap.size→w'.heap[k]? =w.heap[k]?)∧
   (au true t s v (n.den ρ 0).toNat (aN ρ (n.den ρ 0).toNat aH)).p w' S'∧∀k,S' k→w.heap.size≤k∧k<w'.heap.size
 | .D0 ck=> ∃t s n aH v w' S',ck= .bu false nv t s n aH∧res.val= .vv nv∧run= .ok (.value v) w'∧v.oneCell'=true∧fE w w'∧(∀k,k<w.heap.size→w'.heap[k]? =w.heap[k]?)∧
   (au false t s v (n.den ρ 0).toNat (aN ρ (n.den ρ 0).toNat aH)).p w' S'∧∀k,S' k→w.heap.size≤k∧k<w'.heap.size
section
variable {P:Program} {ρ:Env} {w:World} {look:Nat→Option SV} {vals:Operand→Value} {hp:List Ck} {S:Nat→Nat→Prop} {nb nv:Nat} {T:List TI}
theorem jx(ρ:Env)(b:Nat):(ρ.lC b).bv[ρ.bv.length]?.getD 0=b:=by
 simp [Env.lC]
theorem pY(w:World)(cs:Array Value)(e:TypeId)(l:List Value)(hl:cs.toList=l):
  fE w (w.alloc (.cells cs e))∧(w.alloc (.cells cs e)).heap.size=w.heap.size+1∧(∀k,k<w.heap.size→(w.alloc (.cells cs e)).heap[k]? =w.heap[k]?)∧
   (aq w.heap.size true l).p (w.alloc (.cells cs e)) (fun k=>k=w.heap.size):=by
 subst hl;refine⟨⟨rfl,rfl,rfl,by simp⟩,by simp,fun k hk=>heap_alloc_old w _ hk,fun k=>Iff.rfl,e,(0,0),?_,fun _=>rfl⟩;have hn:=heap_alloc_new w (.cells cs e);simpa using hn
theorem D1(hT:bC P T=true)(D2:ρ.bv.length=nb){t:TypeId}{ti:TI}(ht:aU T t=some ti):
  Did P ρ w hp S nb nv ((do pure (.value (←Instr.alloc t true (.tuple #[]))):Sem Next).run P w) {val:= .ptr nb 0,gg:= .new (.row nb true ti.zero)}:=by
 obtain⟨rfl,cF⟩:=aG hT ht;obtain⟨z,hz,hc⟩:=cF.zero w;obtain⟨h1,h2,h3,h4⟩:=pY w z.cells ti.t (SV.aB ρ ti.zero) (hc ρ).symm;refine⟨_,_,if_pos rfl,?_,h1,h2,h3,h4⟩;subst D2;simp [Instr.alloc,hz,newVar,newRow,SV.val,jx]
theorem Jy(hT:bC P T=true)(D2:ρ.bv.length=nb){t:TypeId}{ti:TI}(ht:aU T t=some ti)(e:Nat)(R4:SV.aB ρ ti.zero=[.pointer none,.slice none 0 0]):
  Did P ρ w hp S nb nv ((do pure (.value (←Instr.alloc t true (.tuple #[]))):Sem Next).run P w) {val:= .ptr nb 0,gg:= .new (.HO nb t e (.lit 0) (.lit 0))}:=by
 obtain⟨rfl,cF⟩:=aG hT ht;obtain⟨z,hz,hc⟩:=cF.zero w;obtain⟨h1,h2,h3,h4⟩:=pY w z.cells ti.t (SV.aB ρ ti.zero) (hc ρ).symm;refine⟨_,_,if_pos rfl,?_,h1,h2,h3,?_⟩
 ·subst D2;simp [Instr.alloc,hz,newVar,newRow,SV.val,jx]
 ·have zx:z.cells= #[.pointer none,.slice none 0 0]:=Array.ext' (by rw [←hc ρ,R4]);refine⟨.pointer none,.slice none 0 0,?_,.inl rfl,?_,by simp [Value.ownBlock],fun k=>by simp [Value.ownBlock]⟩
  ·have hn:=heap_alloc_new w (.cells z.cells ti.t);rw [zx]at hn;rw [zx];exact hn
  ·simp only [E.den,Int.toNat_zero,aj,List.range_zero,List.map_nil,List.length_nil];exact World.ownsRow_nil _ 0 e 1
theorem Jz(nr:ρ.Ok)(D2:ρ.bv.length=nb){t:TypeId}{v:SV}{cs:List SV}(mG:dO v=some cs):
  Did P ρ w hp S nb nv ((do pure (.value (←Instr.box t (v.val ρ))):Sem Next).run P w) {val:= .ptr nb 0,gg:= .new (.row nb true cs)}:=by
 obtain⟨h1,h2,h3,h4⟩:=pY w (v.val ρ).cells t (SV.aB ρ cs) (gW ρ mG nr).1;refine⟨_,_,if_pos rfl,?_,h1,h2,h3,h4⟩;subst D2;simp [Instr.box,newVar,newRow,SV.val,jx]
theorem xJ{ti:TI}(cF:jS P ti){cs x:List SV}{off:Nat}{v:SV}(hx:iP off ti.size cs=some x)(hv:hJ ti.k.agg x=some v):
  (part ti.t (SV.aB ρ cs).toArray off).run P w= .ok (v.val ρ) w:=by
 obtain⟨h1,h2⟩:=dY ρ hx;obtain⟨h3,h4⟩:=lH ρ hv;cases ha:ti.k.agg with
 | true=>
  simp only [part,adL,cF.isAgg w,ha,adC,if_true,cF.sizeOf w,ad_,h3 ha,h1];congr 3;apply Array.ext';simp [List.extract_eq_take_drop]
 | false=>
  have h5:=h4 ha;rw [h1]at h5;have h6:(SV.aB ρ cs)[off]? =some (v.val ρ):=by
   have:(((SV.aB ρ cs).drop off).take ti.size)[0]? =some (v.val ρ):=by rw [h5];rfl
   rw [List.getElem?_take,List.getElem?_drop]at this;split at this
   ·simpa using this
   ·cases this
  simp [part,cF.isAgg w,ha,h6]
theorem uT(hT:bC P T=true): ∀(fs:List Field) (l:List (Nat×Nat)),fs.map (fun f=>(f.type,f.offset))=l→o8 T l=true→
  ∃places,fs.mapM (fun f=>(P.info? f.type).map fun i=>(f.offset,i.size))=some places∧∀i,places[i]? =fU T l i
 | [],l,h,_=>by
  subst h;exact⟨[],rfl,fun i=>by simp [fU]⟩
 | f::r,l,h,ha=>by
  subst h;simp only [o8,adT,List.all_cons,ai]at ha;obtain⟨p,hp,C9⟩:=uT hT r _ rfl (by simpa [o8] using ha.2);obtain⟨ti,cF⟩:=Option.isSome_iff_exists.1 ha.1;obtain⟨ht,hi⟩:=aG hT cF;obtain⟨i,h1,h2,_⟩:=hi.info;rw [ht]at h1;refine⟨(f.offset,i.size)::p,?_,fun k=>?_⟩
  ·simp [List.mapM_cons,h1,hp]
  ·cases k with
   | zero=>simp [fU,cF,h2]
   | succ k=>rw [List.getElem?_cons_succ,C9 k];simp [fU]
theorem q8(hT:bC P T=true){ti:TI}{t:TypeId}(ht:aU T t=some ti){fs:List (Nat×Nat)}(hk:ti.k= .struct fs)(tC:o8 T fs=true)
  {ps:List (Nat×List SV)} {vs:Array (Nat×Value)} (hm:eB ρ ps vs.toList) {cs:List SV} (hf:jH (fU T fs) ti.zero ps=some cs):
  (Instr.build t vs).run P w= .ok (.agg (SV.aB ρ cs).toArray) w:=by
 obtain⟨rfl,cF⟩:=aG hT ht;obtain⟨i,hi,_,_,z,hz,hc⟩:=cF.info;have cL:=cF.kind;rw [hk]at cL;obtain⟨fa,hu,O4⟩:=lL cL;obtain⟨places,hp,C9⟩:=uT hT fa.toList fs O4 tC;obtain⟨r,hr,R5⟩:=pX (ρ:=ρ) (fU T fs) hm hf (hc ρ).symm;have hb:P.built ti.t vs.toList=some r:=by
  unfold Program.built;simp only [hi,hu,hz,hp];rw [←hr];congr 1;funext k;rw [←C9 k];simp
 rw [run_build w ti.t vs r hb];congr 2;exact Array.ext' (by simpa using R5)
theorem vR(hT:bC P T=true){ti te:TI}{t:TypeId}(ht:aU T t=some ti){n e:Nat}(hk:ti.k= .arr n e)(gi:aU T e=some te)
  {ps:List (Nat×List SV)} {vs:Array (Nat×Value)} (hm:eB ρ ps vs.toList) {cs:List SV} (hf:jH (jy te.size) ti.zero ps=some cs):
  (Instr.build t vs).run P w= .ok (.agg (SV.aB ρ cs).toArray) w:=by
 obtain⟨rfl,cF⟩:=aG hT ht;obtain⟨rfl,JA⟩:=aG hT gi;obtain⟨i,hi,_,_,z,hz,hc⟩:=cF.info;obtain⟨ie,Gn,Tu,_⟩:=JA.info;have cL:=cF.kind;rw [hk]at cL;have hu:=mY cL;obtain⟨r,hr,R5⟩:=pX (ρ:=ρ) (jy te.size) hm hf (hc ρ).symm;have hb:P.built ti.t vs.toList=some r:=by
  unfold Program.built;simp only [hi,hu,hz,Gn,Tu];exact hr
 rw [run_build w ti.t vs r hb];congr 2;exact Array.ext' (by simpa using R5)
theorem JB(n:Nat)(l:List SV):SV.aB ρ (List.replicate n l).flatten=(List.replicate n (SV.aB ρ l)).flatten:=by
 induction n with
 | zero=>rfl
 | succ n ih=>rw [List.replicate_succ,List.replicate_succ,List.flatten_cons,List.flatten_cons,gU,ih]
theorem r9(z:Array Value)(len:Nat)(_:0<z.size):((Array.range (len*z.size)).map (z[· %z.size]!)).toList=(List.replicate len z.toList).flatten:=by
 rw [Array.toList_map,Array.toList_range]
 induction len with
 | zero=>simp
 | succ n ih=>
  rw [List.replicate_succ',List.flatten_append,←ih,Nat.add_mul,Nat.one_mul,List.range_add,List.map_append];congr 1;rw [List.map_map,List.flatten_singleton];apply List.ext_getElem
  ·simp
  ·intro i h1 h2;have hi:i<z.size:=by simpa using h2
   simp [Nat.add_mod,adQ hi,hi]
theorem tF(hT:bC P T=true)(D2:ρ.bv.length=nb){ti te:TI}{t:TypeId}(ht:aU T t=some ti){e:Nat}(hk:ti.k= .slice e)(gi:aU T e=some te){len:Nat}
  (hlen: ¬(len=0∨te.size=0∨1000<len*te.size)) {ps:List (Nat×List SV)} {vs:Array (Nat×Value)} (hm:eB ρ ps vs.toList) {cs:List SV}
  (hf:jH (jy te.size) (List.replicate len te.zero).flatten ps=some cs):
  Did P ρ w hp S nb nv ((do pure (.value (←Instr.buildSlice t len vs)):Sem Next).run P w)
   {val:= .sl nb (.lit 0) te.size (.lit len) (.lit len),gg:= .new (.row nb true cs)}:=by
 obtain⟨rfl,cF⟩:=aG hT ht;obtain⟨rfl,JA⟩:=aG hT gi;obtain⟨ie,Gn,Tu,_,z,hz,hc⟩:=JA.info;have cL:=cF.kind;rw [hk]at cL;have hu:=bI cL;have oK:z.cells.size=te.size:=by
  rw [←Array.length_toList,←hc ρ,bz,JA.zt]
 have LG:((Array.range (len*ie.size)).map (z.cells[· %z.cells.size]!)).toList=SV.aB ρ (List.replicate len te.zero).flatten:=by
  rw [JB,hc ρ,Tu,←oK];exact r9 _ _ (by omega)
 obtain⟨r,hr,R5⟩:=pX (ρ:=ρ) (jy te.size) hm hf LG;have mg: ¬len*ie.size=0:=by rw [Tu];simp only [Nat.mul_eq_zero];omega
 have hb:=run_buildSlice (P:=P) w ti.t te.t len vs r ie z hu Gn hz (by rw [Tu];omega) mg (by rw [←hr,Tu];rfl);obtain⟨h1,h2,h3,h4⟩:=pY w r te.t (SV.aB ρ cs) R5;refine⟨_,_,if_pos rfl,?_,h1,h2,h3,h4⟩;subst D2;simp [hb,SV.val,jx,E.den]
end
end Go.RX
