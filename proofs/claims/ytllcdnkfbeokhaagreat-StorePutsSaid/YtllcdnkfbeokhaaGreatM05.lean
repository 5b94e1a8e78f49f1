/- Executor. -/
import Derived.Test.YtllcdnkfbeokhaaGreatM04
import Derived.Maps.AppendAt
import Derived.Great.BuildSlice
open Array renaming getElem?_toList -> ayt
open Bool renaming and_eq_true -> ai
open Go.IntKind renaming wrap -> ae
open Go.Op renaming equalIn -> ayp
open Go.Result renaming andThen_ok -> ax0
open Go.Sem renaming run_bind -> ax9, run_pure -> ayj
open Go.Value renaming int -> ayD
open Int renaming toNat_natCast -> ax3
open List renaming append_assoc -> ayl, eq_nil_of_length_eq_zero -> aye, getElem?_eq_some_iff -> axT, length_cons -> ax5, length_nil -> aya, map_cons -> ayr, mem_singleton -> ax2
open Option renaming map_eq_some_iff -> axV
open Option.some renaming injEq -> axU
namespace Go.RX
def iA:List Value->List jt->Prop
 | [],[]=>True
 | .int q _::r,some q'::l=>q=q'/\iA r l
 | .bool _::r,none::l=>iA r l
 | _,_=>False
def uD:List Value->List Value->Bool
 | [],[]=>true
 | .int _ a::r,.int _ b::s=>a==b&&uD r s
 | .bool a::r,.bool b::s=>a==b&&uD r s
 | _,_=>false
theorem gG: ∀{xs:List Value} {l:List jt},iA xs l->xs.length=l.length
 | [],[],_=>rfl
 | x::r,[],h=>by cases x<;>simp[iA]at h
 | [],k::l,h=>by simp[iA]at h
 | x::r,k::l,h=>by
  have:iA r l:=by cases x<;>cases k<;>simp_all[iA]
  simp[gG this]
theorem gH: ∀{l1:List jt} {xs:List Value} {l2:List jt},iA xs (l1++l2)->iA (xs.take l1.length) l1/\iA (xs.drop l1.length) l2
 | [],xs,l2,h=>by simpa[iA] using h
 | k::l1,[],l2,h=>by simp[iA]at h
 | k::l1,x::r,l2,h=>by
  simp only[List.cons_append,ax5,List.take_succ_cons,List.drop_succ_cons]at h ⊢;cases x<;>cases k<;>simp only[iA]at h ⊢
  .exact gH h
  .exact⟨⟨h.1,(gH h.2).1⟩,(gH h.2).2⟩
theorem qR: ∀{l:List jt} {a c b d:List Value},iA a l->iA c l->uD (a++b) (c++d)=(uD a c&&uD b d)
 | [],a,c,b,d,ha,hc=>by
  have h1:=gG ha;have h2:=gG hc;have:a=[]:=aye h1;have:c=[]:=aye h2
  subst_vars
  simp[uD]
 | k::l,[],c,b,d,ha,hc=>by simp[iA]at ha
 | k::l,x::a,[],b,d,ha,hc=>by simp[iA]at hc
 | k::l,x::a,y::c,b,d,ha,hc=>by
  cases x<;>cases k<;>simp only[iA]at ha<;>cases y<;>simp only[iA]at hc
  .simp only[List.cons_append,uD,qR ha hc,Bool.and_assoc]
  .simp only[List.cons_append,uD,qR ha.2 hc.2,Bool.and_assoc]
def FU(P:Program)(t:TypeId)(cs:List Value)(x:Value):Prop:=
 match P.underlying t with
 | some (.struct _)=>x= .agg cs.toArray
 | some (.array _ _)=>x= .agg cs.toArray
 | _=>cs=[x]
section
variable {P:Program}
theorem jS(w:World){d:Nat}{t:TypeId}{l:List jt}(hl:g9 P d t=some l)(hs:P.cellsOf t=l.length)(cs:List Value)(off:Nat)
  (hf:iA ((cs.drop off).take l.length) l): ∃x,(part t cs.toArray off).run P w= .ok x w/\FU P t ((cs.drop off).take l.length) x:=by
 have Gn: ∃i,P.info? t=some i/\i.size=l.length:=by
  cases d with
  | zero=>simp[g9]at hl
  | succ d=>
   cases hi:P.info? t with
   | none=>simp[g9,Program.underlying,hi]at hl
   | some i=>exact⟨i,rfl,by simpa[Program.cellsOf,hi] using hs⟩
 obtain⟨i,hi,jR⟩:=Gn;have Z2:(sizeOf t).run P w= .ok l.length w:=by simp[sizeOf,typeInfo,hi,jR]
 cases d with
 | zero=>simp[g9]at hl
 | succ d=>
  unfold g9 at hl;cases hu:P.underlying t with
  | none=>simp[hu]at hl
  | some td=>
   have yH:=run_underlying hu w;rw[hu]at hl;cases td with
   | int k=>
    simp only[axU]at hl;subst hl;have hlen:=gG hf;simp only[ax5,aya]at hlen hf;cases hc:cs[off]? with
    | none=>
     rw[List.getElem?_eq_none_iff]at hc;rw[List.drop_of_length_le hc]at hlen;simp at hlen
    | some x=>
     refine⟨x,by simp[part,isAgg,yH,hc],?_⟩;simp only[FU,hu];have:off<cs.length:=(axT.1 hc).1;rw[List.drop_eq_getElem_cons this];simp[(axT.1 hc).2]
   | bool=>
    simp only[axU]at hl;subst hl;have hlen:=gG hf;simp only[ax5,aya]at hlen hf;cases hc:cs[off]? with
    | none=>
     rw[List.getElem?_eq_none_iff]at hc;rw[List.drop_of_length_le hc]at hlen;simp at hlen
    | some x=>
     refine⟨x,by simp[part,isAgg,yH,hc],?_⟩;simp only[FU,hu];have:off<cs.length:=(axT.1 hc).1;rw[List.drop_eq_getElem_cons this];simp[(axT.1 hc).2]
   | array n e=>
    refine⟨_,by simp[part,isAgg,yH,Z2];rfl,?_⟩;simp only[FU,hu]
   | struct fs=>
    refine⟨_,by simp[part,isAgg,yH,Z2];rfl,?_⟩;simp only[FU,hu]
   | _=>simp at hl
def EqL(P:Program)(dd:Nat)(t:TypeId)(l:List jt):Prop:=
 ∀(w:World) (xs ys:List Value) (x y:Value),iA xs l->iA ys l->FU P t xs x->FU P t ys y->(ayp dd t x y).run P w= .ok (uD xs ys) w
theorem rD(w:World)(dd:Nat){d:Nat}{e:TypeId}{l:List jt}(hl:g9 P d e=some l)(hs:P.cellsOf e=l.length)(IH:EqL P dd e l)(xs ys:List Value):
  ∀(m k:Nat),iA (xs.drop (k*l.length)) (List.replicate m l).flatten->iA (ys.drop (k*l.length)) (List.replicate m l).flatten->
   (Op.eqItems dd e (P.cellsOf e) xs.toArray ys.toArray (List.range' k m)).run P w= .ok (uD (xs.drop (k*l.length)) (ys.drop (k*l.length))) w
 | 0,k,hx,hy=>by
  have h1:xs.drop (k*l.length)=[]:=aye (by simpa using gG hx);have h2:ys.drop (k*l.length)=[]:=aye (by simpa using gG hy);rw[h1,h2];simp[Op.eqItems,uD]
 | m+1,k,hx,hy=>by
  rw[List.replicate_succ,List.flatten_cons]at hx hy;obtain⟨Nz,hx2⟩:=gH hx;obtain⟨VS,YN⟩:=gH hy;rw[List.drop_drop]at hx2 YN;obtain⟨a,pa,va⟩:=jS w hl hs xs (k*l.length) Nz;obtain⟨b,pb,vb⟩:=jS w hl hs ys (k*l.length) VS;have hab:=IH w _ _ a b Nz VS va vb;have ih:=rD w dd hl hs IH xs ys m (k+1) (by rw[Nat.add_mul,Nat.one_mul];exact hx2) (by rw[Nat.add_mul,Nat.one_mul];exact YN);rw[Nat.add_mul,Nat.one_mul]at ih;have Jz:uD (xs.drop (k*l.length)) (ys.drop (k*l.length))=
    (uD ((xs.drop (k*l.length)).take l.length) ((ys.drop (k*l.length)).take l.length)&&uD (xs.drop (k*l.length+l.length)) (ys.drop (k*l.length+l.length))):=by
   rw[<-qR Nz VS,<-List.drop_drop,<-List.drop_drop,List.take_append_drop,List.take_append_drop]
  rw[List.range'_succ];simp only[Op.eqItems,ax9,hs,pa,pb,hab,ax0];rw[hs]at ih;rw[Jz];cases uD ((xs.drop (k*l.length)).take l.length) ((ys.drop (k*l.length)).take l.length)
  .simp
  .simpa using ih
theorem qj(w:World)(dd:Nat)(f:TypeId->Option (List jt))(d:Nat)(YO: ∀t,f t=g9 P d t)(IH: ∀t l,g9 P d t=some l->EqL P dd t l)(xs ys:List Value):
  ∀(fs:List Field) (off:Nat) (L:List jt),mf P f fs off=some L->iA (xs.drop off) L->iA (ys.drop off) L->
   (Op.eqFields dd xs.toArray ys.toArray fs).run P w= .ok (uD (xs.drop off) (ys.drop off)) w
 | [],off,L,h,hx,hy=>by
  simp only[mf,axU]at h;subst h;have h1:xs.drop off=[]:=aye (by simpa using gG hx);have h2:ys.drop off=[]:=aye (by simpa using gG hy);rw[h1,h2];simp[Op.eqFields,uD]
 | fd::fs,off,L,h,hx,hy=>by
  unfold mf at h;split at h
  .cases h
  .rename_i hn;simp only[Bool.or_eq_true,beq_iff_eq,bne_iff_ne,ne_eq,not_or,Decidable.not_not]at hn;obtain⟨hn,rfl⟩:=hn;split at h
   .rename_i l hl;split at h
    .rename_i hs;rw[axV]at h;obtain⟨L',Z3,rfl⟩:=h;rw[YO]at hl;have lU:P.cellsOf fd.type=l.length:=by simpa using hs
     obtain⟨Nz,hx2⟩:=gH hx;obtain⟨VS,YN⟩:=gH hy;rw[List.drop_drop]at hx2 YN;obtain⟨a,pa,va⟩:=jS w hl lU xs fd.offset Nz;obtain⟨b,pb,vb⟩:=jS w hl lU ys fd.offset VS;have hab:=IH _ _ hl w _ _ a b Nz VS va vb;have ih:=qj w dd f d YO IH xs ys fs (fd.offset+l.length) L' Z3 hx2 YN;have Jz:uD (xs.drop fd.offset) (ys.drop fd.offset)=
       (uD ((xs.drop fd.offset).take l.length) ((ys.drop fd.offset).take l.length)&&uD (xs.drop (fd.offset+l.length)) (ys.drop (fd.offset+l.length))):=by
      rw[<-qR Nz VS,<-List.drop_drop,<-List.drop_drop,List.take_append_drop,List.take_append_drop]
     simp only[Op.eqFields,hn,ne_eq,not_false_eq_true,if_true,ax9,pa,pb,hab,ax0];rw[Jz];cases uD ((xs.drop fd.offset).take l.length) ((ys.drop fd.offset).take l.length)
     .simp
     .simpa using ih
    .cases h
   .cases h
theorem oW(k:Nat): ∀(d:Nat) (t:TypeId) (L:List jt),g9 P d t=some L->EqL P (k+d) t L
 | 0,t,L,h=>by simp[g9]at h
 | d+1,t,L,h=>by
  intro w xs ys x y hx hy vx vy;unfold g9 at h;cases hu:P.underlying t with
  | none=>simp[hu]at h
  | some td=>
   rw[hu]at h;simp only[FU,hu]at vx vy;cases td with
   | int q=>
    simp only[axU]at h;subst h vx vy;cases x<;>simp only[iA]at hx
    cases y<;>simp only[iA]at hy
    obtain⟨rfl,_⟩:=hx;obtain⟨rfl,_⟩:=hy;rw[show k+(d+1)=(k+d)+1 from rfl,run_equalIn_int w _ t _ _ _ _ hu];simp[uD]
   | bool=>
    simp only[axU]at h;subst h vx vy;cases x<;>simp only[iA]at hx
    cases y<;>simp only[iA]at hy
    rw[show k+(d+1)=(k+d)+1 from rfl,run_equalIn_bool' w _ t _ _ hu];simp[uD]
   | array n e=>
    simp only at h vx vy;subst vx vy;split at h
    .rename_i l hl;split at h
     .rename_i hs;simp only[axU]at h;subst h;have lU:P.cellsOf e=l.length:=by simpa using hs
      have Gn: ∃i,P.info? e=some i:=by
       cases d with
       | zero=>simp[g9]at hl
       | succ d=>
        cases hi:P.info? e with
        | none=>simp[g9,Program.underlying,hi]at hl
        | some i=>exact⟨i,rfl⟩
      obtain⟨i,hi⟩:=Gn;rw[show k+(d+1)=(k+d)+1 from rfl,run_equalIn_array w (k+d) _ _ hu hi,List.range_eq_range'];have:=rD w (k+d) hl lU (oW k d e l hl) xs ys n 0 (by simpa using hx) (by simpa using hy);simpa using this
     .cases h
    .cases h
   | struct fs=>
    simp only at h vx vy;subst vx vy;split at h
    .cases h
    .rename_i rY;have hfs:P.fieldsOf t=fs:=by simp[Program.fieldsOf,hu]
     rw[show k+(d+1)=(k+d)+1 from rfl,run_equalIn_struct w (k+d) t _ _ (by rw[hfs];exact hu) (by simpa using rY),hfs];have:=qj w (k+d) (g9 P d) d (λ_=>rfl) (oW k d) xs ys fs.toList 0 L h (by simpa using hx) (by simpa using hy);simpa using this
   | _=>simp at h
end
theorem Dw(k:IntKind)(n:Int)(h:IntKind.lo k<=n)(h':n<=IntKind.hi k):k.wrap n=n:=by
 cases k<;>simp only[IntKind.lo,IntKind.hi]at h h'<;>simp[ae,IntKind.bits,IntKind.signed]<;>omega
section
variable {P:Program} {ρ:Env} {w:World}
theorem AK{k:IntKind}{e:E}(cA: ∀b∈(AL k e).2,b.prop ρ):(AL k e).1.den ρ 0=k.wrap (e.den ρ 0):=by
 unfold AL at cA ⊢;split
 .rfl
 .rfl
 .split
  .rename_i hs;simp only[hs,if_true]at cA;have h1:=cA (.le (.lit (IntKind.lo k)) e) (by simp);have h2:=cA (.le e (.lit (IntKind.hi k))) (by simp);simp only[BE.prop,E.den]at h1 h2;exact(Dw k _ h1 h2).symm
  .rfl
theorem QJ(k:IntKind)(e:E):AM k e=AL k e\/AM k e=(.wrap k e,[]):=by
 unfold AM;split
 .split
  .exact .inr rfl
  .exact .inl rfl
 .exact .inl rfl
theorem NA{k:IntKind}{e:E}(cA: ∀b∈(AM k e).2,b.prop ρ):(AM k e).1.den ρ 0=k.wrap (e.den ρ 0):=by
 rcases QJ k e with h | h
 .rw [h]at cA ⊢;exact AK cA
 .rw [h];rfl
theorem mH: ∀{l:List SV} {L:List jt},r7 l L=true->iA (SV.aq ρ l) L
 | [],[],_=>trivial
 | [],k::L,h=>by simp[r7]at h
 | x::r,L,h=>by
  unfold r7 at h;split at h
  .rename_i heq;cases heq
  .rename_i k e r' k' l heq;cases heq;simp only[ai,beq_iff_eq]at h;exact⟨h.1,mH h.2⟩
  .rename_i b r' l heq;cases heq;exact mH (l:=r) h
  .rename_i L k n a r' heq;cases heq;simp only[ai,decide_eq_true_eq]at h;obtain⟨⟨h1,h2⟩,h3⟩:=h;have ih:=mH (l:=r) h3;simp only[SV.aq,SV.cells];have key: ∀(m:Nat) (f:Nat->Int) (L:List jt) (xs:List Value),m<=L.length->(L.take m).all (· ==some k)=true->iA xs (L.drop m)->iA (aj k m f++xs) L:=by
    intro m
    induction m with
    | zero=>intro f L xs _ _ hf;simpa[aj] using hf
    | succ m ihm=>
     intro f L xs hle oO hf;cases L with
     | nil=>simp at hle
     | cons c L=>
      simp only[List.take_succ_cons,List.all_cons,ai,beq_iff_eq,List.drop_succ_cons,ax5]at oO hf hle;have hc:=oO.1;subst hc;have:aj k (m+1) f= .int k (f 0)::aj k m (λj=>f (j+1)):=by
       unfold aj;rw[List.range_succ_eq_map,ayr,List.map_map];rfl
      rw[this];exact⟨rfl,ihm _ L xs (by omega) oO.2 hf⟩
   exact key n _ _ _ h1 h2 ih
  .cases h
theorem VT(k:IntKind)(n:Nat)(f g:Nat->Int)(a b:List Value):
  uD (aj k n f++a) (aj k n g++b)=((List.range n).all (λj=>f j==g j)&&uD a b):=by
 induction n generalizing f g with
 | zero=>simp[aj]
 | succ n ih=>
  have e: ∀h:Nat->Int,aj k (n+1) h= .int k (h 0)::aj k n (λj=>h (j+1)):=by
   intro h;unfold aj;rw[List.range_succ_eq_map,ayr,List.map_map];rfl
  rw[e f,e g,List.cons_append,List.cons_append,uD,ih,List.range_succ_eq_map,List.all_cons,List.all_map,Bool.and_assoc];rfl
theorem mI: ∀{a b:List SV} {c:BE},nr a b=some c->c.den ρ=uD (SV.aq ρ a) (SV.aq ρ b)
 | [],[],c,h=>by simp[nr]at h;subst h;rfl
 | [],y::s,c,h=>by simp[nr]at h
 | x::r,b,c,h=>by
  unfold nr at h;split at h
  .rename_i heq;exact absurd heq (by simp)
  .rename_i k e r' k' e' s heq;cases heq;split at h
   .rename_i hk;subst hk;rw[axV]at h;obtain⟨d,hd,rfl⟩:=h;rw[pY,oU,mI hd];rfl
   .cases h
  .rename_i p r' q s heq;cases heq;rw[axV]at h;obtain⟨d,hd,rfl⟩:=h;rw[pY,pZ,dY,mI hd];simp only[SV.aq,SV.cells,List.singleton_append,uD];cases p.den ρ<;>cases q.den ρ<;>rfl
  .rename_i k n e r' k' n' e' s heq;cases heq;split at h
   .rename_i hk;obtain⟨rfl,rfl⟩:=hk;rw[axV]at h;obtain⟨d,hd,rfl⟩:=h;rw[pY,mI hd];simp only[SV.aq,SV.cells];rw[VT];congr 1;split
    .rename_i he;subst he;simp[BE.den]
    .rfl
   .cases h
  .cases h
theorem yI(k:IntKind)(a:E): ∀(l:List Nat),SV.aq ρ (l.map λj=>SV.int k (fc a (.lit (j:Nat))))=l.map λj=>ayD k (a.den ρ j)
 | []=>rfl
 | x::r=>by simp only[ayr,SV.aq,SV.cells,dp,eI,ax3,List.singleton_append,yI k a r]
theorem gS: ∀(l:List SV),SV.aq ρ (iI l)=SV.aq ρ l
 | []=>rfl
 | v::r=>by
  unfold iI;split
  .rename_i h;cases h
  .rename_i k n a r' h;cases h;rw[je,yI,gS r];rfl
  .rename_i v' r' _ h;cases h;simp only[SV.aq,gS r]
theorem vI{a b:List SV}{c:BE}(h:AN a b=some c):c.den ρ=uD (SV.aq ρ a) (SV.aq ρ b):=by
 unfold AN at h;split at h
 .rename_i c' hc;cases h;exact mI hc
 .rw [mI h,gS,gS]
theorem zA(op:BinOp)(t:TypeId)(x y:Operand)(k k':IntKind)(a b:Int):(eqGuard op t x y (.int k a) (.int k' b)).run P w= .ok () w:=by
 cases op<;>simp[eqGuard]
theorem qk(op:BinOp)(t:TypeId)(x y:Operand)(a b:Bool):(eqGuard op t x y (.bool a) (.bool b)).run P w= .ok () w:=by
 cases op<;>simp[eqGuard]
def s7:Value->Bool
 | .nilIface=>false
 | .agg _=>false
 | _=>true
theorem dc(op:BinOp)(t:TypeId)(x y:Operand)(a b:Value)(h:s7 a=true):(eqGuard op t x y a b).run P w= .ok () w:=by
 cases op<;>cases a<;>simp_all[eqGuard,s7]
theorem gI{b:E}(h: ∀c∈qS b,c.prop ρ):0<=b.den ρ 0:=by
 by_cases hl:zy (.lit 0) b= .lit true
 .have:(zy (.lit 0) b).den ρ=true:=by rw[hl];rfl
  rw[jN]at this;exact of_decide_eq_true this
 .have:=h (zy (.lit 0) b) (by unfold qS;simp[hl]);rw[<-BE.bY,jN]at this;exact of_decide_eq_true this
theorem VU(k yk:IntKind)(x y:Int)(h:0<=y):(Op.shift .shl k x yk y).run P w= .ok (.int k (k.wrap (x*2^min y.toNat k.bits))) w:=by
 simp[Op.shift,Int.not_lt.2 h]
theorem VV(k yk:IntKind)(x y:Int)(h:0<=y):(Op.shift .shr k x yk y).run P w= .ok (.int k (x.fdiv (2^min y.toNat k.bits))) w:=by
 simp[Op.shift,Int.not_lt.2 h]
theorem JA(ti:TI){o:BinOp}{k k':IntKind}{a b:E}{res:jf}(h:pB ti o (.int k a) (.int k' b)=some res)(cA: ∀b∈res.vcs,b.prop ρ)(t:TypeId):
  (binOp o t (.int k (a.den ρ 0)) (.int k' (b.den ρ 0))).run P w= .ok (res.val.val ρ) w/\res.jE= .none:=by
 cases o<;>simp only[pB]at h
 case shl=>
  simp only[axU]at h;subst h;exact⟨by simp only[binOp];rw[VU _ _ _ _ (gI cA),SV.val,mE];rfl,rfl⟩
 case shr=>
  simp only[axU]at h;subst h;exact⟨by simp only[binOp];rw[VV _ _ _ _ (gI cA),SV.val,mE];rfl,rfl⟩
 all_goals
  split at h
  .cases h
  .rename_i hk;simp only[ne_eq,Decidable.not_not]at hk;subst hk
   first
   | (simp at h;done)
   | (
     simp only[axU]at h;subst h;refine⟨?_,rfl⟩
     first
     | (simp only[binOp,ne_eq,not_true_eq_false,if_false,Op.intCmp,ayj,SV.val,oU,dY,vD,jN];first | done | rfl)
     | (simp only[binOp,ne_eq,not_true_eq_false,if_false,Op.intBits,ayj,SV.val,mE];rfl)
     | (simp only[binOp,ne_eq,not_true_eq_false,if_false,Op.intArith,ayj,SV.val,AK cA,bK,gD,iV])
     | (
      have hnz:=cA (VO b) (by simp);rw[<-BE.bY,zW]at hnz;have ajT:b.den ρ 0≠0:=by simpa using hnz
      simp[binOp,Op.intDiv,ajT,SV.val,Ns,mE,ar]))
theorem aR{ti:TI}{o:BinOp}{xo yo:Operand}{u v:Value}{r:Result Value}(hg:(eqGuard o ti.t xo yo u v).run P w= .ok () w)(h:(binOp o ti.t u v).run P w=r):
  (do eqGuard o ti.t xo yo u v;binOp o ti.t u v:Sem Value).run P w=r:=by
 simp only[ax9,hg,ax0,h]
theorem Gp{t:TypeId}(ht:P.underlying t=some .bool)(a b:Bool):(binOp .eql t (.bool a) (.bool b)).run P w= .ok (.bool (a==b)) w:=by
 simp[binOp,Op.equal,Op.maxDepth,run_equalIn_bool' w 9999 t a b ht]
theorem Gq{t:TypeId}(ht:P.underlying t=some .bool)(a b:Bool):(binOp .neq t (.bool a) (.bool b)).run P w= .ok (.bool (!(a==b))) w:=by
 simp[binOp,Op.equal,Op.maxDepth,run_equalIn_bool' w 9999 t a b ht]
theorem dN{t:TypeId}{x y:Value}{b:Bool}(hb:binOp .eql t x y=(do pure (.bool (<-Op.equal t x y)):Sem Value))(h: ∀d,(ayp (d+1) t x y).run P w= .ok b w):
  (binOp .eql t x y).run P w= .ok (.bool b) w:=by
 have:(Op.equal t x y).run P w= .ok b w:=h 9999;rw[hb];simp only[ax9,this,ax0,ayj]
theorem dO{t:TypeId}{x y:Value}{b:Bool}(hb:binOp .neq t x y=(do pure (.bool (!(<-Op.equal t x y))):Sem Value))(h: ∀d,(ayp (d+1) t x y).run P w= .ok b w):
  (binOp .neq t x y).run P w= .ok (.bool (!b)) w:=by
 have:(Op.equal t x y).run P w= .ok b w:=h 9999;rw[hb];simp only[ax9,this,ax0,ayj]
theorem fZ{u:Option TypeDesc}{e:Nat}(h:ku u (.ptr e)=true):u=some (.pointer e):=by
 cases u with
 | none=>simp[ku]at h
 | some d=>cases d<;>simp_all[ku]
theorem cd{u:Option TypeDesc}{e:Nat}(h:ku u (.slice e)=true):u=some (.slice e):=by
 cases u with
 | none=>simp[ku]at h
 | some d=>cases d<;>simp_all[ku]
theorem ql{u:Option TypeDesc}{n e:Nat}(h:ku u (.arr n e)=true):u=some (.array n e):=by
 cases u with
 | none=>simp[ku]at h
 | some d=>cases d<;>simp_all[ku]
theorem qm{u:Option TypeDesc}{k:IntKind}(h:ku u (.int k)=true):u=some (.int k):=by
 cases u with
 | none=>simp[ku]at h
 | some d=>cases d<;>simp_all[ku]
theorem oX{u:Option TypeDesc}{l:List (Nat×Nat)}(h:ku u (.struct l)=true): ∃fs:Array Field,u=some (.struct fs)/\fs.toList.map (λf=>(f.type,f.offset))=l:=by
 cases u with
 | none=>simp[ku]at h
 | some d=>cases d<;>simp_all[ku]
theorem s8{u:Option TypeDesc}(h:ku u .func=true): ∃a b c,u=some (.func a b c):=by
 cases u with
 | none=>simp[ku]at h
 | some d=>cases d<;>simp_all[ku]
theorem VW{t:TypeId}{e:Nat}(hu:P.underlying t=some (.pointer e))(d:Nat):
  (ayp (d+1) t (.pointer none) (.pointer none)).run P w= .ok true w:=by
 have yH:=run_underlying hu w;rw[ayp];simp only[ax9,yH,ax0];rfl
theorem QL{t:TypeId}{e:Nat}{a:Addr}(hu:P.underlying t=some (.pointer e))(d:Nat):
  (ayp (d+1) t (.pointer none) (.pointer (some a))).run P w= .ok false w:=by
 have yH:=run_underlying hu w;rw[ayp];simp only[ax9,yH,ax0];rfl
theorem QM{t:TypeId}{e:Nat}{a:Addr}(hu:P.underlying t=some (.pointer e))(d:Nat):
  (ayp (d+1) t (.pointer (some a)) (.pointer none)).run P w= .ok false w:=by
 have yH:=run_underlying hu w;rw[ayp];simp only[ax9,yH,ax0];rfl
theorem aev{t:TypeId}{e n m n' m':Nat}(hu:P.underlying t=some (.slice e))(d:Nat):
  (ayp (d+1) t (.slice none n m) (.slice none n' m')).run P w= .ok true w:=by
 have yH:=run_underlying hu w;rw[ayp];simp only[ax9,yH,ax0];rfl
theorem aew{t:TypeId}{e n m n' m':Nat}{a:Addr}(hu:P.underlying t=some (.slice e))(d:Nat):
  (ayp (d+1) t (.slice none n m) (.slice (some a) n' m')).run P w= .ok false w:=by
 have yH:=run_underlying hu w;rw[ayp];simp only[ax9,yH,ax0];rfl
theorem aex{t:TypeId}{e n m n' m':Nat}{a:Addr}(hu:P.underlying t=some (.slice e))(d:Nat):
  (ayp (d+1) t (.slice (some a) n m) (.slice none n' m')).run P w= .ok false w:=by
 have yH:=run_underlying hu w;rw[ayp];simp only[ax9,yH,ax0];rfl
theorem aey{t:TypeId}{x:Array TypeId}{y:Array TypeId}{z:Bool}(hu:P.underlying t=some (.func x y z))(d:Nat):
  (ayp (d+1) t .nilFunc .nilFunc).run P w= .ok true w:=by
 have yH:=run_underlying hu w;rw[ayp];simp only[ax9,yH,ax0];rfl
theorem aez{t:TypeId}{x:Array TypeId}{y:Array TypeId}{z:Bool}{f:Fn}{a b:Array Value}(hu:P.underlying t=some (.func x y z))(d:Nat):
  (ayp (d+1) t .nilFunc (.func f a b)).run P w= .ok false w:=by
 have yH:=run_underlying hu w;rw[ayp];simp only[ax9,yH,ax0];rfl
theorem VX{t:TypeId}{x:Array TypeId}{y:Array TypeId}{z:Bool}{f:Fn}{a b:Array Value}(hu:P.underlying t=some (.func x y z))(d:Nat):
  (ayp (d+1) t (.func f a b) .nilFunc).run P w= .ok false w:=by
 have yH:=run_underlying hu w;rw[ayp];simp only[ax9,yH,ax0];rfl
theorem aeA{t:TypeId}{e:Nat}(hu:P.underlying t=some (.pointer e))(y:Int)(d:Nat):
  (ayp (d+1) t (.pointer none) (dr y)).run P w= .ok (y==0) w:=by
 unfold dr;split
 .rename_i h;subst h;exact VW hu d
 .rename_i h;rw[show(y==(0:Int))=false by simpa using h];exact QL hu d
theorem aeB{t:TypeId}{e:Nat}(hu:P.underlying t=some (.pointer e))(y:Int)(d:Nat):
  (ayp (d+1) t (dr y) (.pointer none)).run P w= .ok (y==0) w:=by
 unfold dr;split
 .rename_i h;subst h;exact VW hu d
 .rename_i h;rw[show(y==(0:Int))=false by simpa using h];exact QM hu d
theorem NB(y:Int):s7 (dr y)=true:=by unfold dr;split<;>rfl
theorem Dx{ti:TI}(dZ:lY P ti){x y:SV}{c:BE}(h:ptrEq ti.k x y=some c):
  s7 (x.val ρ)=true/\(binOp .eql ti.t (x.val ρ) (y.val ρ)).run P w= .ok (.bool (c.den ρ)) w/\(binOp .neq ti.t (x.val ρ) (y.val ρ)).run P w= .ok (.bool (!c.den ρ)) w:=by
 have hk:=dZ.kind;generalize ti.k=kk at h hk;unfold ptrEq at h;split at h
 .cases h;exact⟨rfl,dN rfl λd=>VW (fZ hk) d,dO rfl λd=>VW (fZ hk) d⟩
 .cases h;exact⟨rfl,dN rfl λd=>QL (fZ hk) d,dO rfl λd=>QL (fZ hk) d⟩
 .cases h;exact⟨rfl,dN rfl λd=>QM (fZ hk) d,dO rfl λd=>QM (fZ hk) d⟩
 .cases h;exact⟨rfl,dN rfl λd=>QL (fZ hk) d,dO rfl λd=>QL (fZ hk) d⟩
 .cases h;exact⟨rfl,dN rfl λd=>QM (fZ hk) d,dO rfl λd=>QM (fZ hk) d⟩
 .cases h;exact⟨rfl,dN rfl λd=>by rw[oU];exact aeA (fZ hk) _ d,dO rfl λd=>by rw[oU];exact aeA (fZ hk) _ d⟩
 .cases h;exact⟨NB _,dN (by simp only[SV.val];unfold dr;split<;>rfl) λd=>by rw[oU];exact aeB (fZ hk) _ d,dO (by simp only[SV.val];unfold dr;split<;>rfl) λd=>by rw[oU];exact aeB (fZ hk) _ d⟩
 .cases h;exact⟨rfl,dN rfl λd=>aev (cd hk) d,dO rfl λd=>aev (cd hk) d⟩
 .cases h;exact⟨rfl,dN rfl λd=>aew (cd hk) d,dO rfl λd=>aew (cd hk) d⟩
 .cases h;exact⟨rfl,dN rfl λd=>aex (cd hk) d,dO rfl λd=>aex (cd hk) d⟩
 .cases h;obtain⟨_,_,_,hu⟩:=s8 hk;exact⟨rfl,dN rfl λd=>aey hu d,dO rfl λd=>aey hu d⟩
 .cases h;obtain⟨_,_,_,hu⟩:=s8 hk;exact⟨rfl,dN rfl λd=>aez hu d,dO rfl λd=>aez hu d⟩
 .cases h;obtain⟨_,_,_,hu⟩:=s8 hk;exact⟨rfl,dN rfl λd=>VX hu d,dO rfl λd=>VX hu d⟩
 .cases h;obtain⟨_,_,_,hu⟩:=s8 hk;exact⟨rfl,dN rfl λd=>VX hu d,dO rfl λd=>VX hu d⟩
 .cases h
theorem s9(l:List UInt8):(⟨l.toArray⟩:ByteArray).toList=l:=by rw[ByteArray.toList_eq]
theorem yJ(t:TypeId)(a b:List UInt8):(binOp .eql t (.string ⟨a.toArray⟩) (.string ⟨b.toArray⟩)).run P w= .ok (.bool (a==b)) w:=by
 rw[binOp_string_eql,s9,s9];rfl
theorem yK(t:TypeId)(a b:List UInt8):(binOp .neq t (.string ⟨a.toArray⟩) (.string ⟨b.toArray⟩)).run P w= .ok (.bool (!(a==b))) w:=by
 rw[binOp_string_neq,s9,s9];rfl
theorem NC(a b:List UInt8):(⟨a.toArray⟩:ByteArray)++⟨b.toArray⟩=⟨(a++b).toArray⟩:=by
 apply ByteArray.ext;rw[ByteArray.data_append];simp
theorem yL(t:TypeId)(a b:List UInt8)(h:a.length+b.length<=9223372036854775807):(binOp .add t (.string ⟨a.toArray⟩) (.string ⟨b.toArray⟩)).run P w= .ok (.string ⟨(a++b).toArray⟩) w:=by
 rw[binOp_string_add,run_string_add_sum w _ _ (by simpa[ByteArray.size] using h),NC]
theorem JB{ti:TI}{o:BinOp}{xo yo:Operand}{x y:SV}{res:jf}(h:xB o x y=some res)(cA: ∀b∈res.vcs,b.prop ρ):
  (do eqGuard o ti.t xo yo (x.val ρ) (y.val ρ);binOp o ti.t (x.val ρ) (y.val ρ):Sem Value).run P w= .ok (res.val.val ρ) w/\res.jE= .none:=by
 unfold xB at h;split at h
 .rename_i a b;split at h
  .split at h
   .rename_i hl;cases h;exact⟨aR (dc _ _ _ _ _ _ rfl) (yL _ _ _ (by omega)),rfl⟩
   .cases h
  .cases h;exact⟨aR (dc _ _ _ _ _ _ rfl) (yJ _ _ _),rfl⟩
  .cases h;exact⟨aR (dc _ _ _ _ _ _ rfl) (yK _ _ _),rfl⟩
  .cases h
 .split at h
  .rename_i a b ha hb;have ea:=ux ρ ha;have eb:=ux ρ hb;rw[ea,eb];split at h
   .cases h;have n1:0<=(oa a).den ρ 0:=gI (b:=oa a) λc hc=>cA c (List.mem_append_left _ (List.mem_append_left _ hc))
    have n2:0<=(oa b).den ρ 0:=gI (b:=oa b) λc hc=>cA c (List.mem_append_left _ (List.mem_append_right _ hc))
    have n3:=cA _ (List.mem_append_right _ (ax2.2 rfl));rw[<-BE.bY,jN]at n3;have n3:=of_decide_eq_true n3;rw[bK]at n3;rw[ko]at n1 n2 n3;rw[ko]at n3;simp only[eI]at n3;refine⟨aR (dc _ _ _ _ _ _ rfl) ?_,rfl⟩;rw[yL _ _ _ (by rw[dW,dW];omega),SV.val,QB ρ a b n1 n2]
   .cases h;refine⟨aR (dc _ _ _ _ _ _ rfl) ?_,rfl⟩;rw[yJ,SV.val,Gg]
   .cases h;refine⟨aR (dc _ _ _ _ _ _ rfl) ?_,rfl⟩;rw[yK,SV.val,dY,Gg]
   .cases h
  .cases h
theorem ND{ti:TI}(dZ:lY P ti){o:BinOp}{xo yo:Operand}{x y:SV}{res:jf}(h:pB ti o x y=some res)(cA: ∀b∈res.vcs,b.prop ρ):
  (do eqGuard o ti.t xo yo (x.val ρ) (y.val ρ);binOp o ti.t (x.val ρ) (y.val ρ):Sem Value).run P w= .ok (res.val.val ρ) w/\res.jE= .none:=by
 cases x with
 | int k a=>
  cases y with
  | int k' b=>
   obtain⟨h1,h2⟩:=JA (w:=w) ti h cA ti.t;exact⟨aR (zA _ _ _ _ _ _ _ _) h1,h2⟩
  | _=>simp[pB,ptrEq,xB,rU]at h
 | bool a=>
  cases y with
  | bool b=>
   simp only[pB]at h;split at h
   .cases h
   .rename_i hk;simp only[ne_eq,Decidable.not_not]at hk;have eJ:=dZ.kind;rw[hk]at eJ;have hu:P.underlying ti.t=some .bool:=by
     unfold ku at eJ;split at eJ<;>simp_all
    split at h
    .simp only[axU]at h;subst h;refine⟨aR (qk _ _ _ _ _ _) ?_,rfl⟩;rw[SV.val,SV.val,Gp hu,SV.val,pZ,dY];cases a.den ρ<;>cases b.den ρ<;>rfl
    .simp only[axU]at h;subst h;refine⟨aR (qk _ _ _ _ _ _) ?_,rfl⟩;rw[SV.val,SV.val,Gq hu,SV.val,dY,pZ,dY];cases a.den ρ<;>cases b.den ρ<;>rfl
    .cases h
  | _=>simp[pB,ptrEq,xB,rU]at h
 | agg a=>
  cases y with
  | agg b=>
   simp only[pB]at h;split at h
   .cases h
   .rename_i hl;simp only[Bool.or_eq_true,Bool.not_eq_true',not_or,Bool.not_eq_true,Bool.not_eq_false]at hl;obtain⟨⟨⟨zB,JC⟩,NF⟩,Z4⟩:=hl;rcases dZ.lay with he | ⟨ajU,Z5⟩
    .rw [JC]at he;cases he
    .have hE:=oW (P:=P) 9988 12 ti.t _ ajU w _ _ (.agg (SV.aq ρ a).toArray) (.agg (SV.aq ρ b).toArray) (mH (ρ:=ρ) NF) (mH (ρ:=ρ) Z4);have hV: ∀cs:List Value,FU P ti.t cs (.agg cs.toArray):=by
      intro cs;have eJ:=dZ.kind;unfold ku at eJ;unfold FU;split at eJ
      all_goals first
       | (rename_i hkd;rw[hkd]at zB;simp[TK.agg]at zB;done)
       | (rename_i hu _;rw[hu])
       | cases eJ
     have hE':=hE (hV _) (hV _);have hg: ∀o:BinOp,(eqGuard o ti.t xo yo (.agg (SV.aq ρ a).toArray) (.agg (SV.aq ρ b).toArray)).run P w= .ok () w:=λo=>run_eqGuard_agg w o ti.t xo yo _ _ Z5
     split at h
     .rename_i c hc;simp only[axU]at h;subst h;refine⟨aR (hg _) ?_,rfl⟩;simp only[SV.val];rw[run_eql_struct,hE',ax0,vI hc]
     .rename_i c hc;simp only[axU]at h;subst h;refine⟨aR (hg _) ?_,rfl⟩;simp only[SV.val];rw[run_neq_struct,hE',ax0,dY,vI hc]
     .cases h
  | _=>simp[pB,ptrEq,xB,rU]at h
 | _=>
  simp only[pB]at h;split at h
  .exact JB h cA
  split at h
  .rename_i c hc;simp only[axU]at h;subst h;obtain⟨h1,h2,_⟩:=Dx (ρ:=ρ) (w:=w) dZ hc;exact⟨aR (dc _ _ _ _ _ _ h1) h2,rfl⟩
  .rename_i c hc;simp only[axU]at h;subst h;obtain⟨h1,_,h2⟩:=Dx (ρ:=ρ) (w:=w) dZ hc;refine⟨aR (dc _ _ _ _ _ _ h1) ?_,rfl⟩;rw[h2];simp[SV.val,dY]
  .cases h
end
structure vJ (ρ:Env) (look:Nat->Option SV) (bF:Operand->Value):Prop where
 tmp: ∀s v,look s=some v->bF (.tmp s)=v.val ρ
 const: ∀v,bF (.const v)=v
 func: ∀f,bF (.func f)= .func (.func f) #[] #[]
section
variable {P:Program} {ρ:Env} {w:World} {look:Nat->Option SV} {bF:Operand->Value}
theorem eW(h:vJ ρ look bF){x:Operand}{v:SV}(he:kO look x=some v):bF x=v.val ρ:=by
 cases x with
 | tmp t=>exact h.tmp t v he
 | const c=>rw[h.const];exact(rV ρ c v he).symm
 | global g=>cases he
 | func f=>
  simp only[kO,axU]at he;subst he;rw[h.func];rfl
theorem iC(h:vJ ρ look bF): ∀(xs:List Operand) (vs:List SV),kP (xs.map (kO look))=some vs->xs.map bF=SV.bF ρ vs
 | [],vs,he=>by simp[kP]at he;subst he;rfl
 | x::r,vs,he=>by
  simp only[ayr]at he;cases hx:kO look x with
  | none=>rw[hx]at he;simp[kP]at he
  | some v=>
   rw[hx]at he;simp only[kP,axV]at he;obtain⟨rs,hrs,rfl⟩:=he;simp only[ayr,SV.bF,eW h hx,iC h r rs hrs]
inductive gT (ρ:Env):List (Nat×List SV)->List (Nat×Value)->Prop
 | nil:gT ρ [] []
 | cons {i cs v r s}:v.cells.toList=SV.aq ρ cs->gT ρ r s->gT ρ ((i,cs)::r) ((i,v)::s)
theorem qT(h:vJ ρ look bF)(iW:ρ.Ok): ∀(xs:List (Nat×Operand)) (ps:List (Nat×List SV)),partsOf look xs=some ps->
  gT ρ ps (xs.map λx=>(x.1,bF x.2))
 | [],ps,he=>by simp[partsOf]at he;subst he;exact .nil
 | (i,x)::r,ps,he=>by
  unfold partsOf at he;split at he
  .rename_i v rest hv hr;rw[axV]at he;obtain⟨cs,nY,rfl⟩:=he;refine .cons ?_ (qT h iW r rest hr);rw[eW h hv];exact(kr ρ nY iW).1
  .cases he
theorem s_(place:Nat->Option (Nat×Nat)): ∀{ps:List (Nat×List SV)} {vs:List (Nat×Value)},gT ρ ps vs->
  ∀{cells qE:List SV} {arr:Array Value},mA place cells ps=some qE->arr.toList=SV.aq ρ cells->
  ∃r,Instr.fill place arr vs=some r/\r.toList=SV.aq ρ qE
 | _,_,.nil,cells,qE,arr,h,ha=>by
  simp only[mA,axU]at h;subst h;exact⟨arr,by rw[Instr.fill],ha⟩
 | _,_,.cons (i:=i) (cs:=cs) (v:=v) (r:=r) (s:=s) hv hr,cells,qE,arr,h,ha=>by
  unfold mA at h;split at h
  .rename_i off size NG;split at h
   .rename_i hlen;split at h
    .rename_i ajW nq;obtain⟨hc,hle⟩:=np ρ nq;have jR:v.cells.size=size:=by
      rw[<-Array.length_toList,hv,bJ];exact hlen
     have arf:arr.size=(SV.aq ρ cells).length:=by rw[<-Array.length_toList,ha]
     have fO:(SV.aq ρ cs).length=size:=by rw[<-hv];simpa using jR
     obtain⟨g1,g2⟩:=Great.foldl_set off v.cells.toList 0 arr;unfold Instr.fill;simp only[NG,jR];rw[if_neg (by simp;omega)];refine s_ place hr h ?_;rw[hc];apply List.ext_getElem?;intro k;rw[ayt];have e1: ∀(cs0:Array Value),((v.cells.zipIdx).foldl (λcs (x:Value×Nat)=>cs.setIfInBounds (off+x.2) x.1) cs0)=((v.cells.toList.zipIdx 0).foldl (λcs (x:Value×Nat)=>cs.setIfInBounds (off+x.2) x.1) cs0):=by
      intro cs0;rw[<-Array.foldl_toList,Array.toList_zipIdx]
     have e2:=g2 k;rw[<-e1 arr]at e2;refine Eq.trans e2 ?_;simp only[Nat.add_zero,Array.length_toList,jR];rw[ayl,List.getElem?_append,List.getElem?_append,List.length_take,Nat.min_eq_left (by omega),fO,List.getElem?_take,List.getElem?_drop,<-ha,<-hv];by_cases h1:k<off
     .rw [if_neg (by omega),if_pos h1,if_pos h1];simp
     .rw [if_neg h1];by_cases h2:k<off+size
      .rw [if_pos ⟨by omega,h2,by omega⟩,if_pos (by omega)]
      .rw [if_neg (by omega),if_neg (by omega)];have:off+size+(k - off - size)=k:=by omega
       rw[this];simp
    .cases h
   .cases h
  .cases h
end
end Go.RX
