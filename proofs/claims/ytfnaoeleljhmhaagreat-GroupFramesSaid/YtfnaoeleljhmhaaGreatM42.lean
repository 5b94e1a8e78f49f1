/- The group's functions: what is left to be shown; printed by a program of ours (wip/tools/g5.lean). · The document's member in memory: Find, Key, Has, May, Tick. · The document's member: Take. · The document's Enter: what waited is taken, and to whom the own key goes. · A group's member, plainly: its keys told otherwise, one by one; what it tells of itself. · The law's small functions: a distribution of an atom, a roster by bits, two rosters that are one, what is held cloned, a new member. -/
import Derived.Test.YtfnaoeleljhmhaaGreatM30
import Derived.Test.YtfnaoeleljhmhaaGreatM41
import Derived.Test.YtfnaoeleljhmhaaGreatM39
import Derived.Test.YtfnaoeleljhmhaaGreatM40

namespace Go.RX.Gu
open Go.RX Go.Proofs Go.RX.Gb
set_option maxRecDepth 100000
def st_rfind(Post:PT)(_ _ _ _ _ _ x6 x7 x8 x9:Int)(_ _ _ A3 A4 A5 A6 A7 A8 A9 A10:Nat→Int)(_ v1 _:V1):Prop:=
 ∀_ _:Nat,∃(I0x0:Ext→Prop) (m0x0:Ext→Nat),(∃x10:Int,x10=0∧I0x0 ⟨[],[],[x10],[],[],[],[]⟩)∧
 ∀x10:Int,I0x0 ⟨[],[],[x10],[],[],[],[]⟩→
 Need (0≤x6) (
 Fork (x10<x6) (
 Need (0≤x10) (
 Need ((¬(((A5 (Int.toNat x10))=x7)∧((A6 (Int.toNat x10))=x8)))∨(0≤x10)) (
 Need ((¬(((A5 (Int.toNat x10))=x7)∧((A6 (Int.toNat x10))=x8)))∨(x10<x6)) (
 Need ((¬(((A5 (Int.toNat x10))=x7)∧((A6 (Int.toNat x10))=x8)))∨(0≤x10)) (
 Need ((¬(((A5 (Int.toNat x10))=x7)∧((A6 (Int.toNat x10))=x8)))∨(x10<x6)) (
 Need ((¬(((A5 (Int.toNat x10))=x7)∧((A6 (Int.toNat x10))=x8)))∨(0≤x10)) (
 Need ((¬(((A5 (Int.toNat x10))=x7)∧((A6 (Int.toNat x10))=x8)))∨(x10<x6)) (
 Need ((¬(((A5 (Int.toNat x10))=x7)∧((A6 (Int.toNat x10))=x8)))∨(0≤x10)) (
 Need ((¬(((A5 (Int.toNat x10))=x7)∧((A6 (Int.toNat x10))=x8)))∨(x10<x6)) (
 Fork ((((A5 (Int.toNat x10))=x7)∧((A6 (Int.toNat x10))=x8))∧((A4 (Int.toNat x10))=x9)) (
 Post (.int .i64 x10) [rK true v1 x6 A3 A4 A5 A6 A7 A8 A9 A10]) (
 I64 (x10+1) ((
 ∃x10':Int,x10'=(x10+1)∧I0x0 ⟨[],[],[x10'],[],[],[],[]⟩∧m0x0 ⟨[],[],[x10'],[],[],[],[]⟩<m0x0 ⟨[],[],[x10],[],[],[],[]⟩))))))))))))) (
 Post (.int .i64 (-1)) [rK true v1 x6 A3 A4 A5 A6 A7 A8 A9 A10]))
theorem mt_rfind(Post:PT)(x0 x1 x2 x3 x4 x5 x6 x7 x8 x9:Int)(A0 A1 A2 A3 A4 A5 A6 A7 A8 A9 A10:Nat→Int)(v0 v1 v2:V1)(h:st_rfind Post x0 x1 x2 x3 x4 x5 x6 x7 x8 x9 A0 A1 A2 A3 A4 A5 A6 A7 A8 A9 A10 v0 v1 v2):Meets Tryz.prog 24 [.agg (rC x0 x1 (!(x2==0)) A0 x3 v0.v v1.v v2.v x4).toArray,.agg #[.int .u8 x7,.int .u8 x8],.int .u64 x9] [rK true v1 x6 A3 A4 A5 A6 A7 A8 A9 A10] Post:=
 mtK (C:=cxT) [.agg [.int .u8 (.var 0),.int .u8 (.var 1),.bool (BE.nz (.var 2)),.seg .u8 16 (.avar 0),.int .u64 (.var 3),.vv 0,.vv 1,.vv 2,.int .u64 (.var 4)],.agg [.int .u8 (.var 7),.int .u8 (.var 8)],.int .u64 (.var 9)] [.sli true 1 76 23 (.var 6) [⟨.int .u8,16,.avar 3⟩,⟨.int .u64,1,.avar 4⟩,⟨.int .u8,1,.avar 5⟩,⟨.int .u8,1,.avar 6⟩,⟨.int .u64,1,.avar 7⟩,⟨.int .u64,1,.avar 8⟩,⟨CK.bool,1,.avar 9⟩,⟨.int .u64,1,.avar 10⟩]] ⟨0,3,10,11,0,0,0⟩ ⟨[x0,x1,x2,x3,x4,x5,x6,x7,x8,x9],[A0,A1,A2,A3,A4,A5,A6,A7,A8,A9,A10],[],[],[v0,v1,v2],[],[],[]⟩ 1 Tryz.func24 (by kernel_rfl) h
end Go.RX.Gu

namespace Go.RX.Gu
open Go Go.RX Go.Proofs Go.Gp Go.RX.Gb Go.RX.Gf Go.RX.Gl
def rdC(d:Di):List Value:=segCells .u8 16 (fun i=>d.g.getD i 0)++[.int .u64 d.ep,.int .u8 d.sa,.int .u8 d.sd,.int .u64 d.kid,.int .u64 d.key]
def rhL(e:He):List Value:=rdC e.d++[.bool e.ends,.int .u64 e.til]
def rhHP(md:Bool)(v:V1)(l:List He):HP:=sliHP md 76 23 v.v l.length (l.flatMap rhL)
def rmV(m:Me)(v0 v1 v2:V1)(nx:Int):List Value:=rC m.sf.1 m.sf.2 m.so (fun i=>m.g.getD i 0) m.ep v0.v v1.v v2.v nx
theorem rd_row{A B C D E F:Nat→Int}{j:Nat}{d:Di}(h:DiIs A B C D E F j d):colI .u8 16 A j++(colI .u64 1 B j++(colI .u8 1 C j++(colI .u8 1 D j++(colI .u64 1 E j++colI .u64 1 F j))))=rdC d:=by
 obtain⟨h1,h2,h3,h4,h5,h6⟩:=h;simp only [colI,segCells,rdC,List.range_one,List.map_cons,List.map_nil,Nat.mul_one,Nat.add_zero,h2,h3,h4,h5,h6,List.cons_append,List.nil_append];congr 1;refine List.map_congr_left fun i hi=>?_
 rw [h1 i (List.mem_range.1 hi)]
theorem rK_is{md:Bool}{v:V1}{l:List He}{A B C D E F G H:Nat→Int}(h: ∀j (hj:j<l.length),HeIs A B C D E F H G j l[j]):rK md v (l.length:Int) A B C D E F G H=rhHP md v l:=by
 simp only [rK,rhHP,Int.toNat_natCast];congr 1;rw [flat_range];unfold tabL;rw [List.flatMap_def,List.flatMap_def];congr 1;refine List.map_congr_left fun j hj=>?_
 have hj:=List.mem_range.1 hj;obtain⟨h1,h2,h3⟩:=h j hj;rw [List.getElem?_eq_getElem hj];simp only [Option.elim,rhL,List.flatMap_cons,List.flatMap_nil,List.append_nil,←rd_row h1,List.append_assoc];simp [colI,colB,segCells,h2,h3]
theorem rK_held(md:Bool)(v:V1)(l:List He):rK md v (l.length:Int) (gF (l.map (·.d))) (fF (l.map (·.d)) (·.ep)) (fF (l.map (·.d)) (·.sa)) (fF (l.map (·.d)) (·.sd)) (fF (l.map (·.d)) (·.kid)) (fF (l.map (·.d)) (·.key)) (hF l fun e=>bI e.ends) (hF l (·.til))=rhHP md v l:=rK_is (heIs_list l)
theorem bI_eq(q:Bool):(!(bI q==0))=q:=by cases q<;>rfl
def findR(l:List He)(s:Int×Int)(ep:Int):Int:=match l.findIdx? fun h=>decide ((h.d.sa,h.d.sd)=s∧h.d.ep=ep)with
 | some i=>i
 | none=> -1
theorem rfind_meets(m:Me)(v0 v1 v2:V1)(nx:Int)(s:Int×Int)(ep:Int)(hl:m.held.length<9223372036854775807):
  Meets Tryz.prog 24 [.agg (rmV m v0 v1 v2 nx).toArray,.agg #[.int .u8 s.1,.int .u8 s.2],.int .u64 ep] [rhHP true v1 m.held]
   fun r hs=>r= .int .i64 (findR m.held s ep)∧hs=[rhHP true v1 m.held]:=by
 have base:=mt_rfind (fun r hs=>r= .int .i64 (findR m.held s ep)∧hs=[rhHP true v1 m.held]) m.sf.1 m.sf.2 (bI m.so) m.ep nx 0 (m.held.length:Int) s.1 s.2 ep (fun i=>m.g.getD i 0) (fun _=>0) (fun _=>0)
  (gF (m.held.map (·.d))) (fF (m.held.map (·.d)) (·.ep)) (fF (m.held.map (·.d)) (·.sa)) (fF (m.held.map (·.d)) (·.sd)) (fF (m.held.map (·.d)) (·.kid)) (fF (m.held.map (·.d)) (·.key)) (hF m.held fun e=>bI e.ends) (hF m.held (·.til)) v0 v1 v2
 rw [bI_eq,rK_held]at base;refine base ?_;unfold st_rfind;rw [rK_held];have hat:=diIs_list (m.held.map (·.d));intro _ _;refine⟨fun x=> ∃i:Nat,x=⟨[],[],[(i:Int)],[],[],[],[]⟩∧i≤m.held.length∧∀j,j<i→∀h:j<m.held.length,¬((m.held[j].d.sa,m.held[j].d.sd)=s∧m.held[j].d.ep=ep),
  fun x=>m.held.length - (x.i.getD 0 0).toNat,⟨0,rfl,0,rfl,Nat.zero_le _,fun j hj=>by omega⟩,?_⟩
 rintro x8 ⟨i,he,hi,hb⟩;cases he;refine⟨by omega,fun _=>⟨fun hlt=>⟨by omega,fun _=>?_⟩,fun hge=>?_⟩⟩
 ·have hil:i<m.held.length:=by omega
  obtain⟨_,h2,h3,h4,_,h6⟩:=hat i (by simpa using hil);rw [List.getElem_map]at h2 h3 h4 h6;rw [Int.toNat_natCast,h2,h3,h4]
  iterate 8 refine⟨by omega,fun _=>?_⟩
  refine⟨fun hc=>⟨?_,rfl⟩,fun hc=>⟨by omega,fun _=>⟨by omega,fun _=>⟨_,rfl,⟨i+1,rfl,by omega,fun j hj hjl=>?_⟩,?_⟩⟩⟩⟩
  ·have:(m.held.findIdx? fun h=>decide ((h.d.sa,h.d.sd)=s∧h.d.ep=ep))=some i:=by
    rw [List.findIdx?_eq_some_iff_getElem];refine⟨hil,by simpa [Prod.ext_iff] using hc,fun j hj=>?_⟩;simpa using hb j hj (by omega)
   rw [findR,this]
  ·by_cases hji:j=i
   ·subst hji;simpa [Prod.ext_iff] using hc
   ·exact hb j (by omega) hjl
  ·simp only [List.getD_cons_zero];omega
 ·have hie:i=m.held.length:=by omega
  subst hie;have:(m.held.findIdx? fun h=>decide ((h.d.sa,h.d.sd)=s∧h.d.ep=ep))=none:=by
   rw [List.findIdx?_eq_none_iff];intro x hx;obtain⟨j,hj,rfl⟩:=List.getElem_of_mem hx;exact decide_eq_false (hb j hj hj)
  rw [findR,this];exact⟨rfl,rfl⟩
theorem findR_some{l:List He}{s:Int×Int}{ep:Int}(h:0≤findR l s ep): ∃i:Nat,∃hi:i<l.length,findR l s ep=i∧(l[i].d.sa,l[i].d.sd)=s∧l[i].d.ep=ep∧(l.find? fun h=>decide ((h.d.sa,h.d.sd)=s∧h.d.ep=ep))=some l[i]:=by
 unfold findR at h ⊢;cases hf:(l.findIdx? fun h=>decide ((h.d.sa,h.d.sd)=s∧h.d.ep=ep))with
 | none=>rw [hf]at h;exact absurd h (by decide)
 | some i=>
  obtain⟨hi,h1,h2⟩:=List.findIdx?_eq_some_iff_getElem.1 hf;have h1':=of_decide_eq_true h1;refine⟨i,hi,rfl,h1'.1,h1'.2,?_⟩;rw [List.find?_eq_some_iff_getElem];exact⟨h1,i,hi,rfl,fun j hj=>by have:=h2 j hj;simp only [Bool.not_eq_true,Bool.not_eq_true']at this ⊢;exact this⟩
theorem findR_none{l:List He}{s:Int×Int}{ep:Int}(h: ¬0≤findR l s ep):findR l s ep= -1∧(l.find? fun h=>decide ((h.d.sa,h.d.sd)=s∧h.d.ep=ep))=none:=by
 unfold findR at h ⊢;cases hf:(l.findIdx? fun h=>decide ((h.d.sa,h.d.sd)=s∧h.d.ep=ep))with
 | some i=>rw [hf]at h;exact absurd (Int.natCast_nonneg i) h
 | none=>
  refine⟨rfl,?_⟩;rw [List.find?_eq_none];intro x hx;have:=(List.findIdx?_eq_none_iff.1 hf) x hx;simpa using this
end Go.RX.Gu

namespace Go.RX.Gu
open Go Go.RX Go.Proofs Go.Gp Go.RX.Gb Go.RX.Gf Go.RX.Gl
def OkN(d:Di):Prop:=d.g.length=16∧0≤d.sa∧d.sa<256∧0≤d.sd∧d.sd<256
end Go.RX.Gu

namespace Go.RX.Ha
open Go Go.RX Go.Proofs Go.Gp Go.RX.Gb Go.RX.Gf Go.RX.Gl Go.RX.Gu
theorem rdV_at(l:List Di)(i:Nat)(hi:i<l.length):(Value.agg (List.append (segCells .u8 16 (shiftF (gF l) (i*16))) ([.int .u64 (fF l (·.ep) i),.int .u8 (fF l (·.sa) i),.int .u8 (fF l (·.sd) i),.int .u64 (fF l (·.kid) i),.int .u64 (fF l (·.key) i)])).toArray)= .agg (rdC l[i]).toArray:=by
 obtain⟨h1,h2,h3,h4,h5,h6⟩:=diIs_list l i hi;rw [h2,h3,h4,h5,h6,segCells_congr .u8 16 (f:=shiftF (gF l) (i*16)) (g:=fun k=>l[i].g.getD k 0) fun j hj=>h1 j hj];rfl
theorem dK_is{md:Bool}{v:V1}{l:List (Int×Int)}{A B:Nat→Int}(h: ∀j (hj:j<l.length),A j=l[j].1∧B j=l[j].2):dK md v (l.length:Int) A B=devHP md v l:=by
 simp only [dK,devHP,Int.toNat_natCast];rw [tab_dev rfl h]
end Go.RX.Ha

namespace Go.Gp
def Di.kf(f:Int→Int)(d:Di):Di:={d with key:=f d.key}
def He.kf(f:Int→Int)(h:He):He:={h with d:=h.d.kf f}
def Me.kf(f:Int→Int)(m:Me):Me:={m with held:=m.held.map (He.kf f),wait:=m.wait.map (Di.kf f)}
theorem low_kf(f:Int→Int)(l:List He)(k:Int):low (l.map (He.kf f)) k=low l k:=by
 unfold low;rw [List.takeWhile_map,List.length_map];rfl
theorem put_kf(f:Int→Int)(l:List He)(i:Nat)(e:He):put (l.map (He.kf f)) i (e.kf f)=(put l i e).map (He.kf f):=by simp [put]
theorem hold_kf(f:Int→Int)(l:List He)(d:Di):hold (l.map (He.kf f)) (d.kf f)=(hold l d).map (He.kf f):=by
 unfold hold;rw [show(d.kf f).kid=d.kid from rfl,low_kf,←put_kf];rfl
theorem holds_kf(f:Int→Int)(l:List He)(k:Int):holds (l.map (He.kf f)) k=holds l k:=by
 unfold holds;rw [List.any_map];rfl
theorem tick_kf(f:Int→Int)(l:List He)(now:Int):tick (l.map (He.kf f)) now=(tick l now).map (He.kf f):=by
 unfold tick;rw [List.filter_map];rfl
theorem fade_kf(f:Int→Int)(l:List He)(now:Int):fade (l.map (He.kf f)) now=(fade l now).map (He.kf f):=by
 unfold fade;rw [List.map_map,List.map_map];refine List.map_congr_left fun h _=>?_
 obtain⟨d,til,ends⟩:=h;cases ends<;>rfl
def InjOn(f:Int→Int)(S:Int→Prop):Prop:= ∀a b,S a→S b→f a=f b→a=b
theorem kf_inj{f:Int→Int}{S:Int→Prop}(hf:InjOn f S){a b:Di}(ha:S a.key)(hb:S b.key):a.kf f=b.kf f↔a=b:=by
 constructor
 ·intro h;have hk:=hf _ _ ha hb (congrArg Di.key h);cases a;cases b;simp only [Di.kf,Di.mk.injEq]at h hk ⊢;exact⟨h.1,h.2.1,h.2.2.1,h.2.2.2.1,h.2.2.2.2.1,hk⟩
 ·intro h;rw [h]
theorem waits_kf{f:Int→Int}{S:Int→Prop}(hf:InjOn f S){l:List Di}{d:Di}(hl: ∀w∈l,S w.key)(hd:S d.key):waits (l.map (Di.kf f)) (d.kf f)=((waits l d).1,(waits l d).2.map (Di.kf f)):=by
 have hfind: ∀l:List Di,(∀w∈l,S w.key)→((l.map (Di.kf f)).find? fun w=>decide (w=d.kf f∨w.kid=(d.kf f).kid))=(l.find? fun w=>decide (w=d∨w.kid=d.kid)).map (Di.kf f):=by
  intro l
  induction l with
  | nil=>intro _;rfl
  | cons a r ih=>
   intro h;have e:decide (a.kf f=d.kf f∨(a.kf f).kid=(d.kf f).kid)=decide (a=d∨a.kid=d.kid):=by
    rw [decide_eq_decide,kf_inj hf (h a (List.mem_cons_self ..)) hd];exact Iff.rfl
   rw [List.map_cons,List.find?_cons,List.find?_cons,e];split
   ·rfl
   ·exact ih fun w hw=>h w (List.mem_cons_of_mem _ hw)
 unfold waits;rw [hfind l hl,List.length_map];cases hw:(l.find? fun w=>decide (w=d∨w.kid=d.kid))with
 | none=>
  simp only [Option.map_none];split<;>simp
 | some w=>
  simp only [Option.map_some];have hm:=List.mem_of_find?_eq_some hw;by_cases h:w=d
  ·rw [if_pos h,if_pos (by rw [h])]
  ·rw [if_neg h,if_neg fun h'=>h ((kf_inj hf (hl w hm) hd).1 h')]
theorem take_kf{f:Int→Int}{S:Int→Prop}(hf:InjOn f S){m:Me}{d:Di}(hr:Rise m.held)(hh: ∀h∈m.held,S h.d.key)(hl: ∀w∈m.wait,S w.key)(hd:S d.key):
  take (m.kf f) (d.kf f)=((take m d).1,(take m d).2.1.map (He.kf f),(take m d).2.2.map (Di.kf f)):=by
 have e0:take (m.kf f) (d.kf f)=(if mayD d=false∨(d.sa,d.sd)=m.sf∨m.so=true∧d.g≠m.g then(2,m.held.map (He.kf f),m.wait.map (Di.kf f))else
   if m.so=false∨m.ep<d.ep then((waits (m.wait.map (Di.kf f)) (d.kf f)).1,m.held.map (He.kf f),(waits (m.wait.map (Di.kf f)) (d.kf f)).2)else
   if d.ep<m.ep then(241,m.held.map (He.kf f),m.wait.map (Di.kf f))else
   if m.sf ∉ m.mem∨(d.sa,d.sd) ∉ m.mem then(240,m.held.map (He.kf f),m.wait.map (Di.kf f))else
   if holds (m.held.map (He.kf f)) d.kid then(if((m.held.map (He.kf f)).getD (low (m.held.map (He.kf f)) d.kid) default).d.key=f d.key then 0 else 6,m.held.map (He.kf f),m.wait.map (Di.kf f))else
   (0,hold (m.held.map (He.kf f)) (d.kf f),m.wait.map (Di.kf f))):=rfl
 rw [e0];unfold take;by_cases g1:mayD d=false∨(d.sa,d.sd)=m.sf∨m.so=true∧d.g≠m.g
 ·rw [if_pos g1,if_pos g1]
 rw [if_neg g1,if_neg g1];by_cases g2:m.so=false∨m.ep<d.ep
 ·rw [if_pos g2,if_pos g2,waits_kf hf hl hd]
 rw [if_neg g2,if_neg g2];by_cases g3:d.ep<m.ep
 ·rw [if_pos g3,if_pos g3]
 rw [if_neg g3,if_neg g3];by_cases g4:m.sf ∉ m.mem∨(d.sa,d.sd) ∉ m.mem
 ·rw [if_pos g4,if_pos g4]
 rw [if_neg g4,if_neg g4,holds_kf,low_kf];by_cases g5:holds m.held d.kid=true
 ·rw [if_pos g5,if_pos g5];obtain⟨hlt,_⟩:=(holds_at hr).1 g5;have e1:m.held.getD (low m.held d.kid) default=m.held[low m.held d.kid]:=by simp [List.getD_eq_getElem?_getD,hlt]
  have e2:(m.held.map (He.kf f)).getD (low m.held d.kid) default=m.held[low m.held d.kid].kf f:=by simp [List.getD_eq_getElem?_getD,hlt]
  rw [e1,e2,show(m.held[low m.held d.kid].kf f).d.key=f m.held[low m.held d.kid].d.key from rfl];by_cases g6:m.held[low m.held d.kid].d.key=d.key
  ·rw [if_pos g6,if_pos (congrArg f g6)]
  ·rw [if_neg g6,if_neg fun h=>g6 (hf _ _ (hh _ (List.getElem_mem hlt)) hd h)]
 ·rw [if_neg g5,if_neg g5,hold_kf]
theorem took_kf{f:Int→Int}{S:Int→Prop}(hf:InjOn f S){P:Di→Prop}(hPS: ∀d,P d→S d.key){n:Nat}{m:Me}{d:Di}(hw:Wf P n m)(hd:P d):took (m.kf f) (d.kf f)=(took m d).kf f:=by
 unfold took;rw [take_kf hf hw.rise (fun h hm=>hPS _ (hw.held h hm).2) (fun w hm=>hPS _ (hw.wait w hm).2) (hPS _ hd)];rfl
theorem retake_kf{f:Int→Int}{S:Int→Prop}(hf:InjOn f S){P:Di→Prop}(hPS: ∀d,P d→S d.key){n:Nat}{m:Me}{d:Di}(g:List Int)(ep:Int)(hw:Wf P n m)(hd:P d):retake g ep (m.kf f) (d.kf f)=(retake g ep m d).kf f:=by
 unfold retake;rw [show(d.kf f).g=d.g from rfl,show(d.kf f).ep=d.ep from rfl];by_cases h:d.g=g∧ep≤d.ep
 ·rw [if_pos h,if_pos h];exact took_kf hf hPS hw hd
 ·rw [if_neg h,if_neg h]
theorem retakes_kf{f:Int→Int}{S:Int→Prop}(hf:InjOn f S){P:Di→Prop}(hPS: ∀d,P d→S d.key)(g:List Int)(ep:Int): ∀(l:List Di) {n:Nat} {m:Me},Wf P n m→(∀d∈l,P d)→(l.map (Di.kf f)).foldl (retake g ep) (m.kf f)=(l.foldl (retake g ep) m).kf f
 | [],_,_,_,_=>rfl
 | d::l,n,m,hw,hl=>by
  rw [List.map_cons,List.foldl_cons,List.foldl_cons,retake_kf hf hPS g ep hw (hl d (List.mem_cons_self ..))];exact retakes_kf hf hPS g ep l (retake_wf g ep hw (hl d (List.mem_cons_self ..))) fun x hx=>hl x (List.mem_cons_of_mem _ hx)
theorem into_kf(f:Int→Int)(m:Me)(g:List Int)(ep:Int)(mem:List (Int×Int))(now key:Int):into (m.kf f) g ep mem now (f key)=(into m g ep mem now key).kf f:=by
 unfold into;show({m.kf f with so:=true,g:=g,ep:=ep,mem:=mem,held:=hold (tick (fade (m.held.map (He.kf f)) now) now) ((ownD m g ep key).kf f),wait:=[]}:Me)=_;rw [fade_kf,tick_kf,hold_kf];rfl
theorem enter_kf{f:Int→Int}{S:Int→Prop}(hf:InjOn f S){P:Di→Prop}(hP: ∀d,P d→0≤d.sa∧0≤d.sd)(hPS: ∀d,P d→S d.key){n:Nat}{m:Me}(hw:Wf P n m)(g:List Int)(ep:Int)(mem:List (Int×Int))(now key:Int)(ho:P (ownD m g ep key)):
  enter (m.kf f) g ep mem now (f key)=((enter m g ep mem now key).1,(enter m g ep mem now key).2.1.kf f,(enter m g ep mem now key).2.2):=by
 have e0:enter (m.kf f) g ep mem now (f key)=(if mayR ep mem=false∨m.so=true∧g≠m.g then(2,m.kf f,[],false)else
   if m.so=true∧ep≤m.ep then(5,m.kf f,[],false)else
   if m.sf ∉ mem then(0,{m.kf f with so:=true,g:=g,ep:=ep,mem:=mem,held:=[],wait:=[]},[],false)else
   (0,(m.wait.map (Di.kf f)).foldl (retake g ep) (into (m.kf f) g ep mem now (f key)),mem.filter (fun p=>decide (p≠m.sf)),true)):=rfl
 rw [e0];unfold enter;by_cases g1:mayR ep mem=false∨m.so=true∧g≠m.g
 ·rw [if_pos g1,if_pos g1]
 rw [if_neg g1,if_neg g1];by_cases g2:m.so=true∧ep≤m.ep
 ·rw [if_pos g2,if_pos g2]
 rw [if_neg g2,if_neg g2];have hr:mayR ep mem=true:=by
  cases h:mayR ep mem
  ·exact absurd (.inl h) g1
  ·rfl
 by_cases g3:m.sf ∉ mem
 ·rw [if_pos g3,if_pos g3];rfl
 rw [if_neg g3,if_neg g3,into_kf,retakes_kf hf hPS g ep m.wait (into_wf hP hw now key hr (fun h=>by
  have: ¬ep≤m.ep:=fun h'=>g2 ⟨h,h'⟩
  omega) (Classical.not_not.1 g3) ho) fun d hd=>(hw.wait d hd).2]
theorem wf_kf{f:Int→Int}{P Q:Di→Prop}(hPQ: ∀d,P d→Q (d.kf f)){n:Nat}{m:Me}(hw:Wf P n m):Wf Q n (m.kf f):=by
 refine⟨?_,?_,fun h=>?_,?_,?_,?_,hw.mem,hw.sf⟩
 ·show Rise (m.held.map (He.kf f));exact List.pairwise_map.2 hw.rise
 ·intro h hm;obtain⟨a,ha,rfl⟩:=List.mem_map.1 hm;exact⟨(hw.held a ha).1,hPQ _ (hw.held a ha).2⟩
 ·show m.held.map (He.kf f)=[];rw [hw.none h];rfl
 ·intro w hm;obtain⟨a,ha,rfl⟩:=List.mem_map.1 hm;exact⟨(hw.wait a ha).1,hPQ _ (hw.wait a ha).2⟩
 ·show(m.held.map (He.kf f)).length+(m.wait.map (Di.kf f)).length≤n;rw [List.length_map,List.length_map];exact hw.len
 ·show(m.wait.map (Di.kf f)).length≤64;rw [List.length_map];exact hw.most
theorem wf_mono{P Q:Di→Prop}(hPQ: ∀d,P d→Q d){n k:Nat}(hk:n≤k){m:Me}(hw:Wf P n m):Wf Q k m:=
 {rise:=hw.rise,held:=fun h hm=>⟨(hw.held h hm).1,hPQ _ (hw.held h hm).2⟩,none:=hw.none,wait:=fun w hm=>⟨(hw.wait w hm).1,hPQ _ (hw.wait w hm).2⟩,len:=Nat.le_trans hw.len hk,most:=hw.most,mem:=hw.mem,sf:=hw.sf}
theorem keyOf_kf(f:Int→Int)(l:List He)(s:Int×Int)(ep:Int):keyOf (l.map (He.kf f)) s ep=(keyOf l s ep).map f:=by
 unfold keyOf;rw [List.find?_map,Option.map_map,Option.map_map];rfl
structure Sm (m:Me):Prop where
 ep:m.so=true→1≤m.ep∧m.ep≤1099511627776
 mem: ∀p∈m.mem,p.1<8∧p.2<4
 held:m.held≠[]→m.sf.1<8∧m.sf.2<4
theorem sm_held{m:Me}(h:Sm m)(l:List He)(w:List Di)(hl:l≠[]→m.held≠[]∨m.sf∈m.mem):Sm {m with held:=l,wait:=w}:=
 ⟨h.ep,h.mem,fun hn=>(hl hn).elim h.held (h.mem _)⟩
theorem take_held{m:Me}{d:Di}:(take m d).2.1=m.held∨m.sf∈m.mem:=by
 unfold take;split
 ·exact .inl rfl
 split
 ·exact .inl rfl
 split
 ·exact .inl rfl
 split
 ·exact .inl rfl
 next h=>exact .inr (Classical.not_not.1 fun h'=>h (.inl h'))
theorem sm_take{m:Me}(h:Sm m)(d:Di):Sm (took m d):=sm_held h _ _ fun hn=>by
 rcases take_held (m:=m) (d:=d)with h2 | h2
 ·rw [h2]at hn;exact .inl hn
 ·exact .inr h2
theorem sm_tick{m:Me}(h:Sm m)(now:Int):Sm {m with held:=tick m.held now}:=sm_held h _ _ fun hn=>by
 refine .inl fun h2=>hn ?_
 rw [h2];rfl
theorem sm_retakes(g:List Int)(ep:Int): ∀(l:List Di) {m:Me},Sm m→Sm (l.foldl (retake g ep) m)
 | [],_,h=>h
 | d::l,m,h=>by
  rw [List.foldl_cons];refine sm_retakes g ep l ?_;unfold retake;split
  ·exact sm_take h d
  ·exact h
theorem sm_enter{m:Me}(h:Sm m)(g:List Int)(ep:Int)(mem:List (Int×Int))(now key:Int):Sm (enter m g ep mem now key).2.1:=by
 unfold enter;by_cases g1:mayR ep mem=false∨m.so=true∧g≠m.g
 ·rw [if_pos g1];exact h
 rw [if_neg g1];have hr:mayR ep mem=true:=by
  cases h:mayR ep mem
  ·exact absurd (.inl h) g1
  ·rfl
 obtain⟨⟨e1,e2,_⟩,hs⟩:=mayR_small hr;by_cases g2:m.so=true∧ep≤m.ep
 ·rw [if_pos g2];exact h
 rw [if_neg g2];by_cases g3:m.sf ∉ mem
 ·rw [if_pos g3];exact⟨fun _=>⟨e1,e2⟩,hs,fun h=>absurd rfl h⟩
 rw [if_neg g3];exact sm_retakes g ep m.wait ⟨fun _=>⟨e1,e2⟩,hs,fun _=>hs _ (Classical.not_not.1 g3)⟩
theorem retake_keeps{g:List Int}{ep:Int}{m:Me}{d:Di}{x:He}(hx:x∈m.held):x∈(retake g ep m d).held:=by
 unfold retake;split
 ·show x∈(take m d).2.1;unfold take;split
  ·exact hx
  split
  ·exact hx
  split
  ·exact hx
  split
  ·exact hx
  split
  ·exact hx
  show x∈hold m.held d;unfold hold put;rw [List.mem_append,List.mem_cons];have:=List.take_append_drop (low m.held d.kid) m.held;rw [←this,List.mem_append]at hx;rcases hx with h | h
  ·exact .inl h
  ·exact .inr (.inr h)
 ·exact hx
theorem retakes_keep{g:List Int}{ep:Int}{x:He}: ∀(l:List Di) {m:Me},x∈m.held→x∈(l.foldl (retake g ep) m).held
 | [],_,h=>h
 | d::l,m,h=>by
  rw [List.foldl_cons];exact retakes_keep l (retake_keeps h)
theorem held_one{P:Di→Prop}(hP: ∀d,P d→0≤d.sa∧0≤d.sd){n:Nat}{m:Me}(hw:Wf P n m){a b:He}(ha:a∈m.held)(hb:b∈m.held)(h:(a.d.sa,a.d.sd)=(b.d.sa,b.d.sd)∧a.d.ep=b.d.ep):a=b:=by
 obtain⟨⟨h1,_⟩,h3⟩:=hw.held a ha;obtain⟨⟨q1,_⟩,q3⟩:=hw.held b hb;have hk:a.d.kid=b.d.kid:=by
  rw [((mayD_iff _).1 h1).2.2.2.2,((mayD_iff _).1 q1).2.2.2.2,h.2,show a.d.sa=b.d.sa from(Prod.ext_iff.1 h.1).1,show a.d.sd=b.d.sd from(Prod.ext_iff.1 h.1).2]
 obtain⟨i,hi,rfl⟩:=List.getElem_of_mem ha;obtain⟨j,hj,rfl⟩:=List.getElem_of_mem hb;rcases Nat.lt_trichotomy i j with h | h | h
 ·have:=rise_lt hw.rise h hj;omega
 ·subst h;rfl
 ·have:=rise_lt hw.rise h hi;omega
theorem enter_own{P:Di→Prop}(hP: ∀d,P d→0≤d.sa∧0≤d.sd){n:Nat}{m:Me}(hw:Wf P n m)(g:List Int)(ep:Int)(mem:List (Int×Int))(now key:Int)(ho:P (ownD m g ep key))(hd:(enter m g ep mem now key).2.2.1≠[]):
  ∀h∈(enter m g ep mem now key).2.1.held,(h.d.sa,h.d.sd)=m.sf∧h.d.ep=ep→h.d=ownD m g ep key:=by
 have hw2:=enter_wf hP hw g ep mem now key ho;intro h hm he;have hin:(⟨ownD m g ep key,0,false⟩:He)∈(enter m g ep mem now key).2.1.held:=by
  unfold enter at hd ⊢;by_cases g1:mayR ep mem=false∨m.so=true∧g≠m.g
  ·rw [if_pos g1]at hd;exact absurd rfl hd
  rw [if_neg g1]at hd ⊢;by_cases g2:m.so=true∧ep≤m.ep
  ·rw [if_pos g2]at hd;exact absurd rfl hd
  rw [if_neg g2]at hd ⊢;by_cases g3:m.sf ∉ mem
  ·rw [if_pos g3]at hd;exact absurd rfl hd
  rw [if_neg g3];refine retakes_keep m.wait ?_;show _∈hold _ _;unfold hold put;rw [List.mem_append,List.mem_cons];exact .inr (.inl rfl)
 have:=held_one hP hw2 hm hin he;rw [this]
theorem enter_own_is{n:Nat}{P:Di→Prop}{m:Me}(hw:Wf P n m)(g:List Int)(ep:Int)(mem:List (Int×Int))(now key:Int)(hd:(enter m g ep mem now key).2.2.1≠[]):
  ∃h∈(enter m g ep mem now key).2.1.held,(h.d.sa,h.d.sd)=m.sf∧h.d.ep=ep:=by
 refine⟨⟨ownD m g ep key,0,false⟩,?_,rfl,rfl⟩;unfold enter at hd ⊢;by_cases g1:mayR ep mem=false∨m.so=true∧g≠m.g
 ·rw [if_pos g1]at hd;exact absurd rfl hd
 rw [if_neg g1]at hd ⊢;by_cases g2:m.so=true∧ep≤m.ep
 ·rw [if_pos g2]at hd;exact absurd rfl hd
 rw [if_neg g2]at hd ⊢;by_cases g3:m.sf ∉ mem
 ·rw [if_pos g3]at hd;exact absurd rfl hd
 rw [if_neg g3];refine retakes_keep m.wait ?_;show _∈hold _ _;unfold hold put;rw [List.mem_append,List.mem_cons];exact .inr (.inl rfl)
end Go.Gp

namespace Go.RX.He
open Go Go.RX Go.Proofs Go.Gp Go.RX.Gb Go.RX.Gf Go.RX.Gl Go.RX.Gu Go.RX.Gr Go.RX.Ha
def kA(k:Int):Int:=keyC k.toNat
theorem kA_nat(n:Nat):kA (n:Int)=keyC n:=by rw [kA,Int.toNat_natCast]
theorem real_meets(d:Di)(hd:0≤d.key):Meets Tryz.prog 12 [.agg (rdC d).toArray] [] fun r hs=>r= .agg (diC (d.kf kA)).toArray∧hs=[]:=by
 refine(mt_real (fun r _=>r= .agg (diC (d.kf kA)).toArray) d.ep d.sa d.sd d.kid d.key (fun i=>d.g.getD i 0) ?_).post fun r hs h=>⟨[],Ent.sub (List.nil_sublist hs),h,rfl⟩
 unfold st_real;intro b0 b1;have ha:=atom_meets d.key.toNat;rw [Int.toNat_of_nonneg hd]at ha;refine⟨_,ha,fun x hs hq=>?_⟩;obtain⟨rfl,rfl⟩:=hq;exact⟨kA d.key,by simp only [kA,srowF,strD_rowS],rfl,dV_eq (d.kf kA)⟩
def setM(q:Nat→Bool)(n:Nat):List (Int×Int):=((List.range n).filter q).map fun i=>(((i/4:Nat):Int),((i%4:Nat):Int))
theorem setM_succ(q:Nat→Bool)(n:Nat):setM q (n+1)=setM q n++if q n then [(((n/4:Nat):Int),((n%4:Nat):Int))]else []:=by
 unfold setM;rw [List.range_succ,List.filter_append,List.map_append];congr 1;show List.map _ (List.filter q [n])=_;cases h:q n<;>simp [h]
theorem setM_len(q:Nat→Bool)(n:Nat):(setM q n).length≤n:=by
 unfold setM;rw [List.length_map];exact Nat.le_trans (List.length_filter_le _ _) (Nat.le_of_eq List.length_range)
theorem quo4: ∀i:Nat,i<32→IntKind.wrap .u8 (IntKind.wrap .i64 (iop .quo .i64 (i:Int) 4))=((i/4:Nat):Int)∧IntKind.wrap .u8 (iop .rem .i64 (i:Int) 4)=((i%4:Nat):Int):=by decide
theorem list_meets(A:Nat→Int)(v:V1):Meets Tryz.prog 55 [v.v] [sliHP true 4 1 v.v 32 (tabL 32 [colB 1 A])]
  fun r hs=> ∃u:V1,r=u.v∧hs=[sliHP true 4 1 v.v 32 (tabL 32 [colB 1 A]),devHP true u (setM (fun i=> !(A i==0)) 32)]:=by
 refine mt_list _ A v ?_;unfold st_list;obtain⟨q,hq⟩: ∃q:Nat→Bool,q=fun i=> !(A i==0):=⟨_,rfl⟩
 have hlen:=setM_len q;refine⟨fun x=> ∃(i:Nat) (u:V1) (B C:Nat→Int),x=⟨[],[u],[(i:Int),((setM q i).length:Int)],[B,C],[],[],[]⟩∧i≤32∧∀j,∀h:j<(setM q i).length,B j=(setM q i)[j].1∧C j=(setM q i)[j].2,
  fun x=>32 - (x.i.getD 0 0).toNat,⟨_,_,_,_,_,rfl,rfl,rfl,rfl,fun _ _=>rfl,fun _ _=>rfl,0,_,_,_,rfl,Nat.zero_le _,fun j hj=>by simp [setM]at hj⟩,?_⟩
 rintro v2 x0 x1 A1 A2 ⟨i,u,B,C,he,hi,hB⟩;cases he;have hl:=hlen i;refine⟨fun hlt=>⟨by omega,fun _=>?_⟩,fun hge=>?_⟩
 ·have hil:i<32:=by omega
  have hsucc:=setM_succ q i;obtain⟨h1,h2⟩:=quo4 i hil;rw [Int.toNat_natCast,h1,h2];refine⟨fun hc _=>⟨by omega,fun _=>⟨by omega,fun _ v3=>⟨by omega,fun _=>⟨by omega,fun _=>?_⟩⟩⟩⟩,fun hc=>⟨by omega,fun _=>⟨by omega,fun _=>?_⟩⟩⟩
  ·have hqi:q i=true:=by rw [hq];simpa using hc
   rw [if_pos hqi]at hsucc;refine⟨_,_,_,_,_,rfl,rfl,rfl,rfl,fun _ _=>rfl,fun _ _=>rfl,⟨i+1,_,_,_,by rw [hsucc,List.length_append];rfl,by omega,fun j hj=>?_⟩,?_⟩
   ·simp only [hsucc]at hj ⊢;rw [List.length_append,List.length_singleton]at hj;rw [Int.toNat_natCast];by_cases hjl:j<(setM q i).length
    ·rw [List.getElem_append_left hjl];simp only [updF];rw [if_neg (by omega),if_neg (by omega)];exact hB j hjl
    ·have hje:j=(setM q i).length:=by omega
     subst hje;rw [List.getElem_append_right (Nat.le_refl _)];simp only [Nat.sub_self,List.getElem_singleton,updF,if_true,and_self]
   ·simp only [List.getD_cons_zero];omega
  ·have hqi: ¬q i=true:=by rw [hq];simpa using hc
   rw [if_neg hqi,List.append_nil]at hsucc;refine⟨_,_,_,_,_,rfl,rfl,rfl,rfl,fun _ _=>rfl,fun _ _=>rfl,⟨i+1,_,_,_,by rw [hsucc];rfl,by omega,?_⟩,?_⟩
   ·simp only [hsucc];exact hB
   ·simp only [List.getD_cons_zero];omega
 ·have hie:i=32:=by omega
  subst hie;rw [dK_is hB,hq];exact⟨v2,rfl,rfl⟩
structure Dx where
 kd:Int
 st:Int
 ep:Int
 g:List Int
 now:Int
 d:Di
 sn:Int×Int
 of:Int
 gn:Int
 n:Int
def doC(x:Dx):List Value:= .int .u8 x.kd::(.int .u32 x.st::(.int .u64 x.ep::(List.append (segCells .u8 16 (fun i=>x.g.getD i 0)) (.int .u64 x.now::(List.append (segCells .u8 16 (fun i=>x.d.g.getD i 0)) ([.int .u64 x.d.ep,.int .u8 x.d.sa,.int .u8 x.d.sd,.int .u64 x.d.kid,.int .u64 x.d.key,.int .u8 x.sn.1,.int .u8 x.sn.2,.int .u64 x.of,.int .u64 x.gn,.int .u64 x.n]))))))
def ofQ(st:Int)(i:Nat):Bool:=decide (iop .band .u32 (iop .shr .u32 st (i:Int)) 1=1)
def ofM(st:Int):List (Int×Int):=setM (ofQ st) 32
theorem of_meets(x:Dx):Meets Tryz.prog 10 [.agg (doC x).toArray] [] fun r hs=> ∃u:V1,r=rosV x.g x.ep u.v∧hs=[devHP true u (ofM x.st)]:=by
 refine(mt_of (fun r hs=> ∃u:V1,r=rosV x.g x.ep u.v∧∃hs',Ent hs hs'∧hs'=[devHP true u (ofM x.st)]) x.kd x.st x.ep x.now x.d.ep x.d.sa x.d.sd x.d.kid x.d.key x.sn.1 x.sn.2 x.of x.gn x.n (fun i=>x.g.getD i 0) (fun i=>x.d.g.getD i 0) ?_).post fun r hs ⟨v',h1,hs',h2,h3⟩=>⟨hs',h2,v',h1,h3⟩
 unfold st_of;intro b0 b1 v0;refine⟨fun e=> ∃(i:Nat) (A:Nat→Int),e=⟨[],[],[(i:Int)],[A],[],[],[]⟩∧i≤32∧∀j,j<i→(!(A j==0))=ofQ x.st j,fun x=>32 - (x.i.getD 0 0).toNat,⟨_,_,rfl,fun _ _=>rfl,0,_,rfl,Nat.zero_le _,fun j hj=>by omega⟩,?_⟩;rintro x14 A2 ⟨i,A,he,hi,hA⟩;cases he;refine⟨fun hlt=>?_,fun hge=>?_⟩
 ·have hil:i<32:=by omega
  rw [Int.toNat_natCast];refine⟨fun hc=>⟨by omega,fun _=>⟨by omega,fun _=>⟨by omega,fun _=>?_⟩⟩⟩,fun hc=>⟨by omega,fun _=>⟨by omega,fun _=>⟨by omega,fun _=>?_⟩⟩⟩⟩
  all_goals
   refine⟨_,_,rfl,fun _ _=>rfl,⟨i+1,_,rfl,by omega,fun j hj=>?_⟩,by simp only [List.getD_cons_zero];omega⟩;by_cases hji:j=i
   ·subst hji;simp only [updF,if_true,ofQ,hc];decide
   ·simp only [updF,if_neg hji];exact hA j (by omega)
 ·have hie:i=32:=by omega
  subst hie;refine⟨_,list_meets A2 v0,fun y hs hq=>?_⟩;obtain⟨u,rfl,rfl⟩:=hq;have hset:setM (fun i=> !(A2 i==0)) 32=ofM x.st:=by
   unfold ofM setM;congr 1;exact List.filter_congr fun i hi=>hA i (List.mem_range.1 hi)
  rw [hset];refine⟨u,((ofM x.st).length:Int),pF (ofM x.st) (·.1),pF (ofM x.st) (·.2),rfl,by rw [dK_dev];rfl,u,rfl,_,?_,rfl⟩;rw [dK_dev];exact Ent.pick [3] (by decide) rfl
def newM(s:Int×Int):Me:=⟨s,false,[],0,[],[],[]⟩
theorem new_meets(b0:Nat)(s:Int×Int)(n:Int):Meets Tryz.prog 8 [.iface 135 (.pointer (some ⟨b0,0,none⟩)),.agg #[.int .u8 s.1,.int .u8 s.2]] [rowHP b0 true [.int .u64 n]]
  fun r hs=> ∃b,r= .pointer (some ⟨b,0,none⟩)∧hs=[rowHP b0 true [.int .u64 n],mrow b b0 (newM s) nil1 nil1 nil1]:=by
 refine(mt_new (fun r hs=> ∃b,r= .pointer (some ⟨b,0,none⟩)∧∃hs',Ent hs hs'∧hs'=[rowHP b0 true [.int .u64 n],mrow b b0 (newM s) nil1 nil1 nil1]) s.1 s.2 n b0 ?_).post fun r hs ⟨v',h1,hs',h2,h3⟩=>⟨hs',h2,v',h1,h3⟩
 unfold st_new;intro b1 b2;exact⟨b2,rfl,_,Ent.pick [0,2] (by decide) rfl,rfl⟩
theorem sym_meets(n:Int):Meets Tryz.prog 7 [.int .u64 n] [] fun r hs=> ∃b,r= .iface 135 (.pointer (some ⟨b,0,none⟩))∧hs=[rowHP b true [.int .u64 n]]:=by
 refine mt_sym _ n ?_;unfold st_sym;exact fun b=>⟨b,rfl,rfl⟩
end Go.RX.He
