/- One more that waits (waits); what a member takes (Take). · What a member takes (Take). · Devices cloned; a fresh key. · Terms that are built (build, be, Atom, Fresh). -/
import Derived.Test.YtfnaoeleljhmhaaGreatM36
import Derived.Test.YtfnaoeleljhmhaaGreatM32
import Derived.Test.YtfnaoeleljhmhaaGreatM31

namespace Go.RX.Gf
open Go Go.RX Go.Proofs Go.Gp Go.RX.Gb
def Ok1(d:Di):Prop:=d.g.length=16∧∃s:List UInt8,d.key=((sCode s:Nat):Int)
theorem list_eq16{a b:List Int}(ha:a.length=16)(hb:b.length=16):(∀i,i<16→a.getD i 0=b.getD i 0)↔a=b:=by
 constructor
 ·intro h;apply List.ext_getElem (by omega);intro i h1 h2;have:=h i (by omega);simpa [List.getD_eq_getElem?_getD,List.getElem?_eq_getElem h1,List.getElem?_eq_getElem h2] using this
 ·rintro rfl _ _;rfl
theorem key_eq{a b:Int}(ha: ∃s:List UInt8,a=((sCode s:Nat):Int))(hb: ∃s:List UInt8,b=((sCode s:Nat):Int)):strD (srowF a)=strD (srowF b)↔a=b:=by
 obtain⟨s,rfl⟩:=ha;obtain⟨t,rfl⟩:=hb;simp only [srowF,strD_rowS,sDec_code];exact⟨fun h=>by rw [h],fun h=>by rw [←sDec_code s,h,sDec_code]⟩
theorem di_eq{a b:Di}(ha:Ok1 a)(hb:Ok1 b):((∀i,i<16→a.g.getD i 0=b.g.getD i 0)∧a.ep=b.ep∧a.sa=b.sa∧a.sd=b.sd∧a.kid=b.kid∧strD (srowF a.key)=strD (srowF b.key))↔a=b:=by
 rw [list_eq16 ha.1 hb.1,key_eq ha.2 hb.2];cases a;cases b;simp only [Di.mk.injEq]
theorem waits_meets(b b1:Nat)(m:Me)(v0 v1 v2:V1)(d:Di)(hl:m.wait.length≤64)(hd:Ok1 d)(hw: ∀w∈m.wait,Ok1 w):
  Meets Tryz.prog 57 [.pointer (some ⟨b,0,none⟩),.agg (diC d).toArray] [mrow b b1 m v0 v1 v2,waitHP true v2 m.wait]
   fun r hs=> ∃v:V1,r= .int .i64 (waits m.wait d).1∧hs=[mrow b b1 m v0 v1 v,waitHP true v (waits m.wait d).2]:=by
 obtain⟨l,hlm⟩: ∃l,l=m.wait:=⟨_,rfl⟩;rw [←hlm]at hl hw ⊢;have base:=mt_waits (fun r hs=> ∃v:V1,r= .int .i64 (waits l d).1∧hs=[mrow b b1 m v0 v1 v,waitHP true v (waits l d).2]) m.sf.1 m.sf.2 (bI m.so) m.ep (l.length:Int) d.ep d.sa d.sd d.kid d.key (fun i=>m.g.getD i 0)
  (gF l) (fF l (·.ep)) (fF l (·.sa)) (fF l (·.sd)) (fF l (·.kid)) (fF l (·.key)) (fun i=>d.g.getD i 0) v0 v1 v2 b b1
 rw [mR_row,wK_wait,dV_eq]at base;refine base ?_;unfold st_waits;rw [mR_row,wK_wait];have hat:=diIs_list l;have first: ∀i,∀h:i<l.length,(∀j,j<i→∀h:j<l.length,l[j]≠d∧l[j].kid≠d.kid)→(l[i]=d∨l[i].kid=d.kid)→waits l d=(if l[i]=d then 0 else 6,l):=by
  intro i h hb hq;have:(l.find? fun w=>decide (w=d∨w.kid=d.kid))=some l[i]:=by
   rw [List.find?_eq_some_iff_getElem];refine⟨by simpa using hq,i,h,rfl,fun j hj=>?_⟩;have:=hb j hj (by omega);simp [this.1,this.2]
  simp only [waits,this]
 have none_:(∀j,∀h:j<l.length,l[j]≠d∧l[j].kid≠d.kid)→waits l d=if 64≤l.length then(7,l)else(0,l++[d]):=by
  intro hb;have:(l.find? fun w=>decide (w=d∨w.kid=d.kid))=none:=by
   rw [List.find?_eq_none];intro x hx;obtain⟨j,hj,rfl⟩:=List.getElem_of_mem hx;have:=hb j hj;simp [this.1,this.2]
  simp only [waits,this]
 intro _;refine⟨by omega,fun _=>⟨fun x=> ∃i:Nat,x=⟨[],[],[(i:Int)],[],[],[],[]⟩∧i≤l.length∧∀j,j<i→∀h:j<l.length,l[j]≠d∧l[j].kid≠d.kid,fun x=>l.length - (x.i.getD 0 0).toNat,⟨0,rfl,0,rfl,by omega,fun j hj=>by omega⟩,?_⟩⟩;rintro x4 ⟨i,he,hi,hb⟩;cases he;refine⟨fun hlt=>⟨by omega,fun _ _=>?_⟩,fun hge=>?_⟩
 ·have hil:i<l.length:=by omega
  obtain⟨h1,h2,h3,h4,h5,h6⟩:=hat i hil;rw [Int.toNat_natCast,show((i:Int)*16).toNat=i*16 by omega,h2,h3,h4,h5,h6];have hc:((∀j,j<16→shiftF (gF l) (i*16) j=d.g.getD j 0)∧l[i].ep=d.ep∧l[i].sa=d.sa∧l[i].sd=d.sd∧l[i].kid=d.kid∧strD (srowF l[i].key)=strD (srowF d.key))↔l[i]=d:=by
   rw [←di_eq (hw _ (List.getElem_mem hil)) hd];exact and_congr_left' ⟨fun h j hj=>by rw [←h1 j hj];exact h j hj,fun h j hj=>by rw [←h j hj];exact h1 j hj⟩
  refine⟨fun h=>?_,fun h=>⟨fun hk=>?_,fun hk=>⟨by omega,fun _=>⟨by omega,fun _=>⟨_,rfl,⟨i+1,by simp,by omega,fun j hj hjl=>?_⟩,?_⟩⟩⟩⟩⟩
  ·have:=hc.1 h;rw [first i hil hb (.inl this),if_pos this];exact⟨v2,rfl,rfl⟩
  ·have:l[i]≠d:=fun e=>h (hc.2 e)
   rw [first i hil hb (.inr hk),if_neg this];exact⟨v2,rfl,rfl⟩
  ·by_cases hji:j=i
   ·subst hji;exact⟨fun e=>h (hc.2 e),hk⟩
   ·exact hb j (by omega) hjl
  ·simp only [List.getD_cons_zero];omega
 ·have:i=l.length:=by omega
  subst this;have hn:=none_ fun j h=>hb j h h
  refine⟨by omega,fun _=>⟨fun h64=>?_,fun h64=>?_⟩⟩
  ·rw [hn,if_pos (by omega)];exact⟨v2,rfl,rfl⟩
  ·have hfin: ∀v3:V1,[mR b b1 m.sf.1 m.sf.2 (bI m.so) (fun i=>m.g.getD i 0) m.ep v0 v1 v3,wK true v3 ((l.length:Int)+1) (splF (gF l) (Int.toNat ((l.length:Int)*16)) 16 (splF (fun _=>0) 0 16 fun i=>d.g.getD i 0)) (splF (fF l (·.ep)) (Int.toNat (l.length:Int)) 1 (updF (fun _=>0) 0 d.ep)) (splF (fF l (·.sa)) (Int.toNat (l.length:Int)) 1 (updF (fun _=>0) 0 d.sa)) (splF (fF l (·.sd)) (Int.toNat (l.length:Int)) 1 (updF (fun _=>0) 0 d.sd)) (splF (fF l (·.kid)) (Int.toNat (l.length:Int)) 1 (updF (fun _=>0) 0 d.kid)) (splF (fF l (·.key)) (Int.toNat (l.length:Int)) 1 (updF (fun _=>0) 0 d.key))]=
     [mrow b b1 m v0 v1 v3,waitHP true v3 (l++[d])]:=by
    intro v3;rw [mR_row];congr 2;have hlen:(l++[d]).length=l.length+1:=by simp
    simp only [wK,waitHP,hlen];rw [show((l.length:Int)+1).toNat=l.length+1 by omega,show((l.length:Int)*16).toNat=l.length*16 by omega,Int.toNat_natCast];congr 1;refine tab_wait hlen.symm fun j hj=>?_
    rw [hlen]at hj;by_cases hjl:j<l.length
    ·rw [List.getElem_append_left hjl];obtain⟨g1,g2,g3,g4,g5,g6⟩:=hat j hjl;refine⟨fun k hk=>?_,?_,?_,?_,?_,?_⟩
     ·simp only [splF];rw [if_neg (by omega)];exact g1 k hk
     all_goals simp only [splF];rw [if_neg (by omega)];assumption
    ·have hje:j=l.length:=by omega
     subst hje;rw [List.getElem_append_right (by omega)];simp only [Nat.sub_self,List.getElem_singleton];refine⟨fun k hk=>?_,?_,?_,?_,?_,?_⟩
     ·simp only [splF];rw [if_pos (by omega),if_pos (by omega)];congr 1;omega
     all_goals simp only [splF,updF];rw [if_pos (by omega),if_pos (by omega)]
   rw [hn,if_neg (by omega)];refine⟨fun _=>⟨by omega,fun _ v3=>⟨v3,rfl,hfin v3⟩⟩,fun _=>⟨by omega,fun _ v3=>⟨v3,rfl,hfin v3⟩⟩⟩
end Go.RX.Gf

namespace Go.RX.Gf
open Go Go.RX Go.Proofs Go.Gp Go.RX.Gb
structure Fit (m:Me):Prop where
 rise:Rise m.held
 held:(m.held.length+1)*72≤140737488355328
 wait:m.wait.length≤64
 mem:m.mem.length<9223372036854775807
 okH: ∀h∈m.held,Ok1 h.d
 okW: ∀w∈m.wait,Ok1 w
 okG:m.so=true→m.g.length=16
theorem bI_nz(q:Bool):bI q≠0↔q=true:=by cases q<;>simp [bI]
theorem take_meets(b b1:Nat)(m:Me)(v0 v1 v2:V1)(d:Di)(hf:Fit m)(hd:Ok1 d):
  Meets Tryz.prog 11 [.pointer (some ⟨b,0,none⟩),.agg (diC d).toArray] [mrow b b1 m v0 v1 v2,devHP true v0 m.mem,heldHP true v1 m.held,waitHP true v2 m.wait]
   fun r hs=> ∃u1 u2:V1,r= .int .i64 (take m d).1∧hs=[mrow b b1 m v0 u1 u2,devHP true v0 m.mem,heldHP true u1 (take m d).2.1,waitHP true u2 (take m d).2.2]:=by
 obtain⟨Post,hP⟩: ∃Post:PT,Post=fun r hs=> ∃u1 u2:V1,r= .int .i64 (take m d).1∧hs=[mrow b b1 m v0 u1 u2,devHP true v0 m.mem,heldHP true u1 (take m d).2.1,waitHP true u2 (take m d).2.2]:=⟨_,rfl⟩
 rw [←hP];have ret: ∀(e:Int) (h:List He) (w:List Di) (u1 u2:V1),take m d=(e,h,w)→Post (.int .i64 e) [mrow b b1 m v0 u1 u2,devHP true v0 m.mem,heldHP true u1 h,waitHP true u2 w]:=by
  intro e h w u1 u2 ht;rw [hP,ht];exact⟨u1,u2,rfl,rfl⟩
 have base:=mt_take Post m.sf.1 m.sf.2 (bI m.so) m.ep (m.mem.length:Int) (m.held.length:Int) (m.wait.length:Int) d.ep d.sa d.sd d.kid d.key (fun i=>m.g.getD i 0) (pF m.mem (·.1)) (pF m.mem (·.2))
  (gF (m.held.map (·.d))) (fF (m.held.map (·.d)) (·.ep)) (fF (m.held.map (·.d)) (·.sa)) (fF (m.held.map (·.d)) (·.sd)) (fF (m.held.map (·.d)) (·.kid)) (fF (m.held.map (·.d)) (·.key)) (hF m.held (·.til)) (hF m.held fun e=>bI e.ends)
  (gF m.wait) (fF m.wait (·.ep)) (fF m.wait (·.sa)) (fF m.wait (·.sd)) (fF m.wait (·.kid)) (fF m.wait (·.key)) (fun i=>d.g.getD i 0) v0 v1 v2 b b1
 rw [mR_row,dK_dev,hK_held,wK_wait,dV_eq]at base;refine base ?_;unfold st_take;simp only [mR_row,dK_dev,hK_held,wK_wait,dV_eq];have hb:=hf.held;intro _;refine⟨_,may_meets d,fun x hs hq=>?_⟩;obtain⟨rfl,rfl⟩:=hq;refine⟨_,rfl,rfl,fun h1=>?_,fun h1=>?_⟩
 ·refine ret _ _ _ _ _ ?_;rw [take,if_pos];rcases h1 with(h | h) | ⟨h,h'⟩
  ·exact .inl (Bool.eq_false_iff.2 h)
  ·exact .inr (.inl (Prod.ext h.1 h.2))
  ·rw [bI_nz]at h;rw [list_eq16 hd.1 (hf.okG h)]at h';exact .inr (.inr ⟨h,h'⟩)
 have g1: ¬(mayD d=false∨(d.sa,d.sd)=m.sf∨m.so=true∧d.g≠m.g):=by
  rintro (h | h | ⟨h,h'⟩)
  ·exact h1 (.inl (.inl (by rw [h];simp)))
  ·exact h1 (.inl (.inr ⟨by rw [←h],by rw [←h]⟩))
  ·exact h1 (.inr ⟨(bI_nz _).2 h,by rw [list_eq16 hd.1 (hf.okG h)];exact h'⟩)
 refine⟨fun h2=>?_,fun h2=>?_⟩
 ·have g2:m.so=false∨m.ep<d.ep:=by
   rcases h2 with h | h
   ·rw [bI_nz]at h;exact .inl (Bool.eq_false_iff.2 h)
   ·exact .inr h
  refine⟨_,waits_meets b b1 m v0 v1 v2 d hf.wait hd hf.okW,fun x hs hq=>?_⟩;obtain⟨v,rfl,rfl⟩:=hq;refine⟨v,_,_,_,_,_,_,_,_,rfl,by rw [←wK_wait],?_⟩;rw [wK_wait];refine ret _ _ _ _ _ ?_;rw [take,if_neg g1,if_pos g2]
 have g2: ¬(m.so=false∨m.ep<d.ep):=by
  rintro (h | h)
  ·exact h2 (.inl (by rw [bI_nz,h];simp))
  ·exact h2 (.inr h)
 refine⟨fun h3=>?_,fun h3=>?_⟩
 ·refine ret _ _ _ _ _ ?_;rw [take,if_neg g1,if_neg g2,if_pos h3]
 refine⟨_,has_meets m.g m.ep v0 m.mem m.sf hf.mem,fun x hs hq=>?_⟩;obtain⟨rfl,rfl⟩:=hq;refine⟨_,rfl,rfl,fun h4=>?_,fun h4=>?_⟩;rotate_left
 ·refine ret _ _ _ _ _ ?_;rw [take,if_neg g1,if_neg g2,if_neg h3,if_pos (.inl (by simpa using h4))]
 have h4:m.sf∈m.mem:=by simpa using h4
 refine⟨_,has_meets m.g m.ep v0 m.mem (d.sa,d.sd) hf.mem,fun x hs hq=>?_⟩;obtain⟨rfl,rfl⟩:=hq;refine⟨_,rfl,rfl,fun h5=>?_,fun h5=>?_⟩
 ·refine ret _ _ _ _ _ ?_;rw [take,if_neg g1,if_neg g2,if_neg h3,if_pos (.inr (by simpa using h5))]
 have h5:(d.sa,d.sd)∈m.mem:=by simpa using h5
 have g4: ¬(m.sf ∉ m.mem∨(d.sa,d.sd) ∉ m.mem):=by
  rintro (h | h)
  ·exact h h4
  ·exact h h5
 refine⟨_,find_meets b b1 m v0 v1 v2 d.kid (by omega) hf.rise,fun x hs hq=>?_⟩;obtain⟨rfl,rfl⟩:=hq;refine⟨_,_,rfl,rfl,fun h6=>?_,fun h6=>?_⟩
 ·obtain⟨hlt,hk⟩:=(holds_at hf.rise).1 h6;have hg:m.held.getD (low m.held d.kid) default=m.held[low m.held d.kid]:=by simp [List.getD_eq_getElem?_getD,List.getElem?_eq_getElem hlt]
  refine⟨by omega,fun _=>⟨by omega,fun _=>?_⟩⟩;have hkey:fF (m.held.map (·.d)) (·.key) (low m.held d.kid)=m.held[low m.held d.kid].d.key:=by simp [fF,hlt]
  rw [Int.toNat_natCast,hkey,key_eq (hf.okH _ (List.getElem_mem hlt)).2 hd.2];refine⟨fun h7=>ret _ _ _ _ _ ?_,fun h7=>ret _ _ _ _ _ ?_⟩
  ·rw [take,if_neg g1,if_neg g2,if_neg h3,if_neg g4,if_pos h6,hg,if_neg h7]
  ·rw [take,if_neg g1,if_neg g2,if_neg h3,if_neg g4,if_pos h6,hg,if_pos (Classical.not_not.1 h7)]
 ·refine⟨_,hold_meets b b1 m v0 v1 v2 d hb hf.rise,fun x hs hq=>?_⟩;obtain⟨v,rfl,rfl⟩:=hq;refine⟨v,_,_,_,_,_,_,_,_,_,rfl,by rw [←hK_held],?_⟩;rw [hK_held];refine ret _ _ _ _ _ ?_;rw [take,if_neg g1,if_neg g2,if_neg h3,if_neg g4,if_neg h6]
end Go.RX.Gf

namespace Go.RX
theorem Ent.nilS(t s:Nat):Ent [] [sliHP true t s (.slice none 0 0) 0 []]:=by
 intro w Fs ⟨S,hS⟩;refine⟨fun i=>match i with | 0=>fun _=>False | i+1=>S i,⟨?_,?_⟩⟩
 ·intro i x hx
  match i,hx with
  | 0,hx=>
   simp at hx;subst hx;exact⟨⟨by simp only [if_true];exact ownsAt_nil w t s,fun k=>⟨False.elim,fun h=>by simp [Value.ownBlock]at h⟩⟩,fun k h=>h.elim⟩
  | i+1,hx=>exact hS.at_ i x (by simpa using hx)
 ·intro i j x y hne hx hy hw k
  match i,j,hne,hx,hy with
  | 0,_,_,_,_=>exact fun h=>h.elim
  | i+1,0,_,_,_=>exact fun _ h=>h
  | i+1,j+1,hne,hx,hy=>exact hS.apart i j x y (by omega) (by simpa using hx) (by simpa using hy) hw k
theorem Ent.front{A a b:List HP}(h:Ent a b):Ent (A++a) (A++b):=by
 refine Ent.trans (Ent.perm List.perm_append_comm) (Ent.trans (Ent.frame h A) (Ent.perm List.perm_append_comm))
end Go.RX
namespace Go.RX.Gf
open Go Go.RX Go.Proofs Go.Gp Go.RX.Gb
def nil1:V1:=⟨.slice none 0 0,rfl⟩
theorem clone_meets(v:V1)(l:List (Int×Int))(hl:l.length≤70368744177664):
  Meets Tryz.prog 52 [v.v] [devHP true v l] fun r hs=> ∃u:V1,r=u.v∧hs=[devHP true v l,devHP true u l]:=by
 intro w Fs ho;have hnil:nilSl v.v=true→l=[]:=by
  obtain⟨S,hS⟩:=ho;obtain⟨a0,_⟩:=(hS.at_ 0 _ rfl).1;simp only [if_true]at a0;obtain⟨_,⟨_,h⟩ | ⟨g,o,c,u,h,_⟩⟩:=a0
  ·exact fun _=>List.eq_nil_of_length_eq_zero h
  ·intro hn;rw [h]at hn;cases hn
 have base:=mt_clone (fun r hs=> ∃u:V1,r=u.v∧∃hs',Ent hs hs'∧hs'=[devHP true v l,devHP true u l]) 0 0 0 (l.length:Int) (fun _=>0) (pF l (·.1)) (pF l (·.2)) v;rw [dK_dev]at base;refine((base ?_).post fun r hs ⟨v',h1,hs',h2,h3⟩=>⟨hs',h2,v',h1,h3⟩) w Fs ho;unfold st_clone;simp only [dK_dev];refine⟨fun hn=>?_,fun hn v1=>⟨by omega,fun _=>⟨by omega,fun _=>⟨by omega,fun _ v2=>⟨v2,rfl,_,Ent.refl _,rfl⟩⟩⟩⟩⟩;have:=hnil hn;subst this;exact⟨nil1,rfl,_,Ent.front (A:=[devHP true v []]) (Ent.nilS 23 2),rfl⟩
end Go.RX.Gf

namespace Go.RX.Gr
open Go Go.RX Go.Proofs Go.RX.Gb Go.RX.Gf Go.RX.Gq
def byF(l:List UInt8):Nat→Int:=fun i=>(l[i]?).elim 0 fun b=>(b.toNat:Int)
theorem seg_by(l:List UInt8):segCells .u8 l.length (byF l)=Lib.byteCells l:=by
 unfold segCells Lib.byteCells;apply List.ext_getElem (by simp);intro i h1 h2;simp only [List.length_map,List.length_range]at h1;simp [byF,h1]
theorem seg_is{n:Nat}{A:Nat→Int}{l:List UInt8}(hn:n=l.length)(h: ∀j,j<n→A j=byF l j):segCells .u8 n A=Lib.byteCells l:=by
 rw [segCells_congr .u8 n h,hn,seg_by]
theorem tab_by{n:Nat}{A:Nat→Int}{l:List UInt8}(hn:n=l.length)(h: ∀j,j<n→A j=byF l j):tabL n [colI .u8 1 A]=Lib.byteCells l:=by
 rw [←seg_is hn h];unfold tabL segCells;simp [colI,segCells,List.flatMap_singleton']
 induction List.range n with
 | nil=>rfl
 | cons x r ih=>simp [ih]
def strC(p:List UInt8):Value:= .string ⟨p.toArray⟩
def codeF(ps:List (List UInt8)):Nat→Int:=fun i=>((sCode (ps.getD i []):Nat):Int)
theorem tab_str(ps:List (List UInt8)):tabL ps.length [colS 1 (codeF ps)]=ps.map strC:=by
 unfold tabL;simp only [List.flatMap_cons,List.flatMap_nil,List.append_nil];have: ∀i,colS 1 (codeF ps) i=[strC (ps.getD i [])]:=fun i=>by
  simp [colS,colV,codeF,strC,sDec_code]
 rw [List.flatMap_def,show(fun i=>colS 1 (codeF ps) i)=fun i=>[strC (ps.getD i [])]from funext this];have h: ∀(l:List Nat) (f:Nat→Value),(l.map fun i=>[f i]).flatten=l.map f:=fun l f=>by
  induction l with
  | nil=>rfl
  | cons x r ih=>simp [ih]
 rw [h];apply List.ext_getElem (by simp);intro i h1 h2;simp only [List.length_map,List.length_range]at h1;simp [List.getD_eq_getElem?_getD,h1]
def bldB(c:UInt8)(d:List UInt8)(ps:List (List UInt8)):List UInt8:=if []∈ps then []else c::(d++ps.flatten)
theorem code_str(p:List UInt8):strD (srowF ((sCode p:Nat):Int))=p:=by simp only [srowF,strD_rowS,sDec_code]
theorem empty_str:strD (rowLF [0])=[]:=rfl
theorem byF_append(l k:List UInt8)(j:Nat):byF (l++k) j=if j<l.length then byF l j else byF k (j - l.length):=by
 unfold byF;by_cases h:j<l.length
 ·rw [if_pos h,List.getElem?_append_left h]
 ·rw [if_neg h,List.getElem?_append_right (by omega)]
theorem cells_len(l:List UInt8):(Lib.byteCells l).length=l.length:=by simp [Lib.byteCells]
theorem cells_append(l k:List UInt8):Lib.byteCells l++Lib.byteCells k=Lib.byteCells (l++k):=by simp [Lib.byteCells]
theorem build_meets(c:UInt8)(d:List UInt8)(ps:List (List UInt8))(v pv:V1)(hl:1+d.length+ps.flatten.length≤140737488355328)(hps:ps.length<9223372036854775807):
  Meets Tryz.prog 61 [.int .u8 c.toNat,v.v,pv.v] [sliHP false 5 1 v.v d.length (Lib.byteCells d),sliHP false 33 1 pv.v ps.length (ps.map strC)]
   fun r hs=>r= .agg #[strC (bldB c d ps)]∧hs=[sliHP false 5 1 v.v d.length (Lib.byteCells d),sliHP false 33 1 pv.v ps.length (ps.map strC)]:=by
 have base:=mt_build (fun r hs=>r= .agg #[strC (bldB c d ps)]∧hs=[sliHP false 5 1 v.v d.length (Lib.byteCells d),sliHP false 33 1 pv.v ps.length (ps.map strC)]) (c.toNat:Int) (d.length:Int) (ps.length:Int) (byF d) (codeF ps) v pv;rw [Int.toNat_natCast,Int.toNat_natCast,tab_by rfl (fun _ _=>rfl),tab_str]at base;refine base ?_;unfold st_build;rw [Int.toNat_natCast,Int.toNat_natCast,tab_by rfl (fun _ _=>rfl),tab_str];intro _ b1;have e1:Lib.byteCells [c]=[.int .u8 (c.toNat:Int)]:=rfl;refine⟨_,wb_meets b1 (segCells .u8 0 fun _=>0) c.toNat (by simp [segCells]),fun x hs hq=>?_⟩;obtain⟨rfl,rfl⟩:=hq;refine⟨([c].length:Int),byF [c],rfl,by rw [Int.toNat_natCast,seg_by];rfl,?_⟩;rw [Int.toNat_natCast,seg_by];refine⟨_,wr_meets b1 (Lib.byteCells [c]) v.v d.length (Lib.byteCells d) (by simp [Lib.byteCells];omega) (by intro u hu;simp only [Lib.byteCells,List.mem_map]at hu;obtain⟨_,_,rfl⟩:=hu;rfl),fun x hs hq=>?_⟩;obtain⟨rfl,rfl⟩:=hq;refine⟨((c::d).length:Int),_,byF (c::d),rfl,by rw [Int.toNat_natCast,seg_by,cells_append];rfl,?_⟩;refine⟨by omega,fun _=>⟨fun x=> ∃(i:Nat) (A:Nat→Int),x=⟨[],[],[(i:Int),((c::(d++(ps.take i).flatten)).length:Int)],[A],[],[],[]⟩∧i≤ps.length∧[] ∉ ps.take i∧∀j,j<(c::(d++(ps.take i).flatten)).length→A j=byF (c::(d++(ps.take i).flatten)) j,
  fun x=>ps.length - (x.i.getD 0 0).toNat,⟨_,_,_,rfl,rfl,fun _ _=>rfl,0,byF (c::d),by simp,Nat.zero_le _,by simp,fun j hj=>by simp⟩,?_⟩⟩
 rintro x6 x7 A4 ⟨i,A,he,hi,hne,hA⟩;cases he;rw [Int.toNat_natCast,Int.toNat_natCast,seg_is rfl hA];refine⟨fun hlt=>⟨by omega,fun _ _=>?_⟩,fun hge=>?_⟩
 ·have hil:i<ps.length:=by omega
  have hg:ps.getD i []=ps[i]:=by simp [List.getD_eq_getElem?_getD,hil]
  have hcode:strD (srowF (codeF ps i))=ps[i]:=by rw [codeF,hg,code_str]
  rw [hcode,empty_str];refine⟨fun h0=>⟨?_,rfl⟩,fun h0=>?_⟩
  ·have:bldB c d ps=[]:=by rw [bldB,if_pos (h0▸List.getElem_mem hil)]
   rw [this];rfl
  ·have htk:(ps.take (i+1)).flatten=(ps.take i).flatten++ps[i]:=by
    rw [List.take_add_one,List.getElem?_eq_getElem hil,List.flatten_append];simp
   have hle:(ps.take (i+1)).flatten.length≤ps.flatten.length:=by
    have:=congrArg List.length (congrArg List.flatten (List.take_append_drop (i+1) ps));rw [List.flatten_append,List.length_append]at this;omega
   rw [htk,List.length_append]at hle;refine⟨_,ws_meets b1 (Lib.byteCells (c::(d++(ps.take i).flatten))) ps[i] (by rw [cells_len,List.length_cons,List.length_append];omega),fun x hs hq=>?_⟩;obtain⟨rfl,rfl⟩:=hq;refine⟨((c::(d++(ps.take (i+1)).flatten)).length:Int),_,byF (c::(d++(ps.take (i+1)).flatten)),rfl,?_,?_⟩
   ·rw [Int.toNat_natCast,seg_by,cells_append,htk];simp
   refine⟨by omega,fun _=>⟨by omega,fun _=>⟨_,_,_,rfl,rfl,fun _ _=>rfl,⟨i+1,_,rfl,by omega,?_,fun j hj=>rfl⟩,?_⟩⟩⟩
   ·rw [List.take_add_one,List.getElem?_eq_getElem hil,List.mem_append];rintro (h | h)
    ·exact hne h
    ·simp only [Option.toList_some,List.mem_singleton]at h;exact h0 h.symm
   ·simp only [List.getD_cons_zero];omega
 ·have hie:i=ps.length:=by omega
  subst hie;rw [List.take_length]at hne ⊢;refine⟨_,st_meets b1 (c::(d++ps.flatten)) (by simp),fun x hs hq=>?_⟩;obtain⟨rfl,rfl⟩:=hq;refine⟨((sCode (c::(d++ps.flatten)):Nat):Int),by rw [code_str],rfl,?_,rfl⟩;rw [code_str,bldB,if_neg hne];rfl
def beB(n:Nat):List UInt8:=[UInt8.ofNat (n/72057594037927936),UInt8.ofNat (n/281474976710656),UInt8.ofNat (n/1099511627776),UInt8.ofNat (n/4294967296),UInt8.ofNat (n/16777216),UInt8.ofNat (n/65536),UInt8.ofNat (n/256),UInt8.ofNat n]
def atomB(n:Nat):List UInt8:=1::beB n
theorem shr_byte(n d:Nat)(x:Int)(hx:x=(n:Int).fdiv (d:Int)):IntKind.wrap .u8 x=((UInt8.ofNat (n/d)).toNat:Int):=by
 rw [hx,Int.fdiv_eq_ediv_of_nonneg _ (by omega),UInt8.toNat_ofNat'];show((n:Int)/(d:Int))%256=_;rw [←Int.natCast_ediv];omega
theorem be_meets(n:Nat):Meets Tryz.prog 62 [.int .u64 (n:Int)] [] fun r hs=> ∃v:V1,r=v.v∧hs=[sliHP true 5 1 v.v 8 (Lib.byteCells (beB n))]:=by
 have base:=mt_be (fun r hs=> ∃v:V1,r=v.v∧∃hs',Ent hs hs'∧hs'=[sliHP true 5 1 v.v 8 (Lib.byteCells (beB n))]) (n:Int);refine(base ?_).post fun r hs ⟨v',h1,hs',h2,h3⟩=>⟨hs',h2,v',h1,h3⟩
 unfold st_be;intro b0 _ b1 _ b2 _ b3 _ b4 _ b5 _ b6 _ b7 v7;refine⟨v7,rfl,_,Ent.sub (List.Sublist.cons _ (List.Sublist.cons_cons _ (List.nil_sublist _))),?_⟩;congr 2;refine tab_by rfl fun j hj=>?_
 match j,hj with
 | 0,_=>exact shr_byte n 72057594037927936 _ rfl
 | 1,_=>exact shr_byte n 281474976710656 _ rfl
 | 2,_=>exact shr_byte n 1099511627776 _ rfl
 | 3,_=>exact shr_byte n 4294967296 _ rfl
 | 4,_=>exact shr_byte n 16777216 _ rfl
 | 5,_=>exact shr_byte n 65536 _ rfl
 | 6,_=>exact shr_byte n 256 _ rfl
 | 7,_=>exact(shr_byte n 1 _ rfl).trans (by rw [Nat.div_one];rfl)
def keyC(n:Nat):Int:=((sCode (atomB n):Nat):Int)
theorem keyC_str(n:Nat):tmV (keyC n)=strC (atomB n):=by simp only [tmV,keyC,sDec_code,strC]
theorem Ent.lookS(t s n:Nat)(v:Value)(cs:List Value):Ent [sliHP true t s v n cs] [sliHP false t s v n cs]:=
 Ent.put 0 _ _ rfl (fun h=>by cases h) fun _ _ hp=>⟨_,fun _ hk=>hk.1,sli_look hp⟩
theorem atom_meets(n:Nat):Meets Tryz.prog 16 [.int .u64 (n:Int)] [] fun r hs=>r= .agg #[tmV (keyC n)]∧hs=[]:=by
 refine mt_atom _ _ ?_;unfold st_atom;intro _;refine⟨_,be_meets n,fun x hs hq=>?_⟩;obtain⟨v,rfl,rfl⟩:=hq;have hb:(beB n).length=8:=rfl;refine⟨v,byF (beB n),rfl,by rw [tab_by hb.symm (fun _ _=>rfl)],?_⟩;rw [tab_by hb.symm (fun _ _=>rfl)];have hbm:=build_meets 1 (beB n) [] v nil1 (by rw [hb];decide) (by decide);have he:Ent [sliHP true 5 1 v.v 8 (Lib.byteCells (beB n))] [sliHP false 5 1 v.v (beB n).length (Lib.byteCells (beB n)),sliHP false 33 1 nil1.v ([]:List (List UInt8)).length (([]:List (List UInt8)).map strC)]:=by
  refine Ent.trans (Ent.lookS 5 1 8 v.v _) ?_;refine Ent.trans (Ent.front (A:=[sliHP false 5 1 v.v 8 (Lib.byteCells (beB n))]) (Ent.nilS 33 1)) ?_;exact Ent.front (A:=[sliHP false 5 1 v.v 8 (Lib.byteCells (beB n))]) (Ent.lookS 33 1 0 _ _)
 have hm:Meets Tryz.prog 61 [.int .u8 1,v.v,.slice none 0 0] [sliHP true 5 1 v.v 8 (Lib.byteCells (beB n))] fun r hs=>r= .agg #[tmV (keyC n)]∧hs=[]:=
  (hbm.pre he).post fun r hs hq=>⟨[],Ent.sub (List.nil_sublist _),by rw [hq.1,keyC_str];rfl,rfl⟩
 refine⟨_,hm,fun x hs hq=>?_⟩;obtain⟨rfl,rfl⟩:=hq;exact⟨keyC n,by simp only [srowF,strD_rowS],rfl,by simp only [srowF,strD_rowS],rfl⟩
theorem fresh_meets(b:Nat)(n:Nat)(hn:n+1<18446744073709551616):
  Meets Tryz.prog 254 [.pointer (some ⟨b,0,none⟩)] [rowHP b true [.int .u64 (n:Int)]] fun r hs=>r= .agg #[tmV (keyC n)]∧hs=[rowHP b true [.int .u64 ((n+1:Nat):Int)]]:=by
 refine mt_fresh _ _ _ ?_;unfold st_fresh;intro _;have e1:IntKind.wrap .u64 ((n:Int)+1)=((n+1:Nat):Int):=by rw [w64];omega
 have e2:IntKind.wrap .u64 (((n+1:Nat):Int) - 1)=(n:Int):=by rw [w64];omega
 rw [e1,e2];refine⟨_,atom_meets n,fun x hs hq=>?_⟩;obtain⟨rfl,rfl⟩:=hq;exact⟨keyC n,by simp only [srowF,strD_rowS],rfl,by simp only [srowF,strD_rowS],rfl⟩
end Go.RX.Gr
