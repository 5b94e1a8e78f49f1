/- A reflective symbolic executor, part 11: equality of values that are made of integers and bools. · A reflective symbolic executor, part 12: operators, and values put together. -/
import Derived.Test.YtfnaoeleljhmhaaGreatRxJ
import Derived.ChangeKeysEq

namespace Go.RX
def fitV:List Value→List CellK→Prop
 | [],[]=>True
 | .int q _::r,.int q'::l=>q=q'∧fitV r l
 | .bool _::r,.bool::l=>fitV r l
 | .string _::r,.str::l=>fitV r l
 | _,_=>False
def eqV:List Value→List Value→Bool
 | [],[]=>true
 | .int _ a::r,.int _ b::s=>a==b&&eqV r s
 | .bool a::r,.bool b::s=>a==b&&eqV r s
 | .string a::r,.string b::s=>a.toList==b.toList&&eqV r s
 | _,_=>false
theorem fitV_length: ∀{xs:List Value} {l:List CellK},fitV xs l→xs.length=l.length
 | [],[],_=>rfl
 | x::r,[],h=>by cases x<;>simp [fitV]at h
 | [],k::l,h=>by simp [fitV]at h
 | x::r,k::l,h=>by
  have:fitV r l:=by cases x<;>cases k<;>simp_all [fitV]
  simp [fitV_length this]
theorem fitV_append: ∀{l1:List CellK} {xs:List Value} {l2:List CellK},fitV xs (l1++l2)→fitV (xs.take l1.length) l1∧fitV (xs.drop l1.length) l2
 | [],xs,l2,h=>by simpa [fitV] using h
 | k::l1,[],l2,h=>by simp [fitV]at h
 | k::l1,x::r,l2,h=>by
  simp only [List.cons_append,List.length_cons,List.take_succ_cons,List.drop_succ_cons]at h ⊢;cases x<;>cases k<;>simp only [fitV]at h ⊢
  ·exact fitV_append h
  ·exact⟨⟨h.1,(fitV_append h.2).1⟩,(fitV_append h.2).2⟩
  ·exact fitV_append h
theorem eqV_append: ∀{l:List CellK} {a c b d:List Value},fitV a l→fitV c l→eqV (a++b) (c++d)=(eqV a c&&eqV b d)
 | [],a,c,b,d,ha,hc=>by
  have h1:=fitV_length ha;have h2:=fitV_length hc;have:a=[]:=List.eq_nil_of_length_eq_zero h1;have:c=[]:=List.eq_nil_of_length_eq_zero h2
  subst_vars
  simp [eqV]
 | k::l,[],c,b,d,ha,hc=>by simp [fitV]at ha
 | k::l,x::a,[],b,d,ha,hc=>by simp [fitV]at hc
 | k::l,x::a,y::c,b,d,ha,hc=>by
  cases x<;>cases k<;>simp only [fitV]at ha<;>cases y<;>simp only [fitV]at hc
  ·simp only [List.cons_append,eqV,eqV_append ha hc,Bool.and_assoc]
  ·simp only [List.cons_append,eqV,eqV_append ha.2 hc.2,Bool.and_assoc]
  ·simp only [List.cons_append,eqV,eqV_append ha hc,Bool.and_assoc]
def VOf(P:Program)(t:TypeId)(cs:List Value)(x:Value):Prop:=
 match P.underlying t with
 | some (.struct _)=>x= .agg cs.toArray
 | some (.array _ _)=>x= .agg cs.toArray
 | _=>cs=[x]
section
variable {P:Program}
theorem run_part_lay(w:World){d:Nat}{t:TypeId}{l:List CellK}(hl:layOf P d t=some l)(hs:P.cellsOf t=l.length)(cs:List Value)(off:Nat)
  (hf:fitV ((cs.drop off).take l.length) l): ∃x,(part t cs.toArray off).run P w= .ok x w∧VOf P t ((cs.drop off).take l.length) x:=by
 have hinfo: ∃i,P.info? t=some i∧i.size=l.length:=by
  cases d with
  | zero=>simp [layOf]at hl
  | succ d=>
   cases hi:P.info? t with
   | none=>simp [layOf,Program.underlying,hi]at hl
   | some i=>exact⟨i,rfl,by simpa [Program.cellsOf,hi] using hs⟩
 obtain⟨i,hi,hsz⟩:=hinfo;have hso:(sizeOf t).run P w= .ok l.length w:=by simp [sizeOf,typeInfo,hi,hsz]
 cases d with
 | zero=>simp [layOf]at hl
 | succ d=>
  unfold layOf at hl;cases hu:P.underlying t with
  | none=>simp [hu]at hl
  | some td=>
   have hun:=run_underlying hu w;rw [hu]at hl;cases td with
   | int k=>
    simp only [Option.some.injEq]at hl;subst hl;have hlen:=fitV_length hf;simp only [List.length_cons,List.length_nil]at hlen hf;cases hc:cs[off]? with
    | none=>
     rw [List.getElem?_eq_none_iff]at hc;rw [List.drop_of_length_le hc]at hlen;simp at hlen
    | some x=>
     refine⟨x,by simp [part,isAgg,hun,hc],?_⟩;simp only [VOf,hu];have:off<cs.length:=(List.getElem?_eq_some_iff.1 hc).1;rw [List.drop_eq_getElem_cons this];simp [(List.getElem?_eq_some_iff.1 hc).2]
   | bool=>
    simp only [Option.some.injEq]at hl;subst hl;have hlen:=fitV_length hf;simp only [List.length_cons,List.length_nil]at hlen hf;cases hc:cs[off]? with
    | none=>
     rw [List.getElem?_eq_none_iff]at hc;rw [List.drop_of_length_le hc]at hlen;simp at hlen
    | some x=>
     refine⟨x,by simp [part,isAgg,hun,hc],?_⟩;simp only [VOf,hu];have:off<cs.length:=(List.getElem?_eq_some_iff.1 hc).1;rw [List.drop_eq_getElem_cons this];simp [(List.getElem?_eq_some_iff.1 hc).2]
   | string=>
    simp only [Option.some.injEq]at hl;subst hl;have hlen:=fitV_length hf;simp only [List.length_cons,List.length_nil]at hlen hf;cases hc:cs[off]? with
    | none=>
     rw [List.getElem?_eq_none_iff]at hc;rw [List.drop_of_length_le hc]at hlen;simp at hlen
    | some x=>
     refine⟨x,by simp [part,isAgg,hun,hc],?_⟩;simp only [VOf,hu];have:off<cs.length:=(List.getElem?_eq_some_iff.1 hc).1;rw [List.drop_eq_getElem_cons this];simp [(List.getElem?_eq_some_iff.1 hc).2]
   | array n e=>
    refine⟨_,by simp [part,isAgg,hun,hso];rfl,?_⟩;simp only [VOf,hu]
   | struct fs=>
    refine⟨_,by simp [part,isAgg,hun,hso];rfl,?_⟩;simp only [VOf,hu]
   | _=>simp at hl
def EqL(P:Program)(dd:Nat)(t:TypeId)(l:List CellK):Prop:=
 ∀(w:World) (xs ys:List Value) (x y:Value),fitV xs l→fitV ys l→VOf P t xs x→VOf P t ys y→(Op.equalIn dd t x y).run P w= .ok (eqV xs ys) w
theorem run_eqItems_lay(w:World)(dd:Nat){d:Nat}{e:TypeId}{l:List CellK}(hl:layOf P d e=some l)(hs:P.cellsOf e=l.length)(IH:EqL P dd e l)(xs ys:List Value):
  ∀(m k:Nat),fitV (xs.drop (k*l.length)) (List.replicate m l).flatten→fitV (ys.drop (k*l.length)) (List.replicate m l).flatten→
   (Op.eqItems dd e (P.cellsOf e) xs.toArray ys.toArray (List.range' k m)).run P w= .ok (eqV (xs.drop (k*l.length)) (ys.drop (k*l.length))) w
 | 0,k,hx,hy=>by
  have h1:xs.drop (k*l.length)=[]:=List.eq_nil_of_length_eq_zero (by simpa using fitV_length hx);have h2:ys.drop (k*l.length)=[]:=List.eq_nil_of_length_eq_zero (by simpa using fitV_length hy);rw [h1,h2];simp [Op.eqItems,eqV]
 | m+1,k,hx,hy=>by
  rw [List.replicate_succ,List.flatten_cons]at hx hy;obtain⟨hx1,hx2⟩:=fitV_append hx;obtain⟨hy1,hy2⟩:=fitV_append hy;rw [List.drop_drop]at hx2 hy2;obtain⟨a,pa,va⟩:=run_part_lay w hl hs xs (k*l.length) hx1;obtain⟨b,pb,vb⟩:=run_part_lay w hl hs ys (k*l.length) hy1;have hab:=IH w _ _ a b hx1 hy1 va vb;have ih:=run_eqItems_lay w dd hl hs IH xs ys m (k+1) (by rw [Nat.add_mul,Nat.one_mul];exact hx2) (by rw [Nat.add_mul,Nat.one_mul];exact hy2);rw [Nat.add_mul,Nat.one_mul]at ih;have hsplit:eqV (xs.drop (k*l.length)) (ys.drop (k*l.length))=
    (eqV ((xs.drop (k*l.length)).take l.length) ((ys.drop (k*l.length)).take l.length)&&eqV (xs.drop (k*l.length+l.length)) (ys.drop (k*l.length+l.length))):=by
   rw [←eqV_append hx1 hy1,←List.drop_drop,←List.drop_drop,List.take_append_drop,List.take_append_drop]
  rw [List.range'_succ];simp only [Op.eqItems,Sem.run_bind,hs,pa,pb,hab,Result.andThen_ok];rw [hs]at ih;rw [hsplit];cases eqV ((xs.drop (k*l.length)).take l.length) ((ys.drop (k*l.length)).take l.length)
  ·simp
  ·simpa using ih
theorem run_eqFields_lay(w:World)(dd:Nat)(f:TypeId→Option (List CellK))(d:Nat)(hfd: ∀t,f t=layOf P d t)(IH: ∀t l,layOf P d t=some l→EqL P dd t l)(xs ys:List Value):
  ∀(fs:List Field) (off:Nat) (L:List CellK),layFields P f fs off=some L→fitV (xs.drop off) L→fitV (ys.drop off) L→
   (Op.eqFields dd xs.toArray ys.toArray fs).run P w= .ok (eqV (xs.drop off) (ys.drop off)) w
 | [],off,L,h,hx,hy=>by
  simp only [layFields,Option.some.injEq]at h;subst h;have h1:xs.drop off=[]:=List.eq_nil_of_length_eq_zero (by simpa using fitV_length hx);have h2:ys.drop off=[]:=List.eq_nil_of_length_eq_zero (by simpa using fitV_length hy);rw [h1,h2];simp [Op.eqFields,eqV]
 | fd::fs,off,L,h,hx,hy=>by
  unfold layFields at h;split at h
  ·cases h
  ·rename_i hn;simp only [Bool.or_eq_true,beq_iff_eq,bne_iff_ne,ne_eq,not_or,Decidable.not_not]at hn;obtain⟨hn,rfl⟩:=hn;split at h
   ·rename_i l hl;split at h
    ·rename_i hs;rw [Option.map_eq_some_iff]at h;obtain⟨L',hL',rfl⟩:=h;rw [hfd]at hl;have hs':P.cellsOf fd.type=l.length:=by simpa using hs
     obtain⟨hx1,hx2⟩:=fitV_append hx;obtain⟨hy1,hy2⟩:=fitV_append hy;rw [List.drop_drop]at hx2 hy2;obtain⟨a,pa,va⟩:=run_part_lay w hl hs' xs fd.offset hx1;obtain⟨b,pb,vb⟩:=run_part_lay w hl hs' ys fd.offset hy1;have hab:=IH _ _ hl w _ _ a b hx1 hy1 va vb;have ih:=run_eqFields_lay w dd f d hfd IH xs ys fs (fd.offset+l.length) L' hL' hx2 hy2;have hsplit:eqV (xs.drop fd.offset) (ys.drop fd.offset)=
       (eqV ((xs.drop fd.offset).take l.length) ((ys.drop fd.offset).take l.length)&&eqV (xs.drop (fd.offset+l.length)) (ys.drop (fd.offset+l.length))):=by
      rw [←eqV_append hx1 hy1,←List.drop_drop,←List.drop_drop,List.take_append_drop,List.take_append_drop]
     simp only [Op.eqFields,hn,ne_eq,not_false_eq_true,if_true,Sem.run_bind,pa,pb,hab,Result.andThen_ok];rw [hsplit];cases eqV ((xs.drop fd.offset).take l.length) ((ys.drop fd.offset).take l.length)
     ·simp
     ·simpa using ih
    ·cases h
   ·cases h
theorem equalIn_lay(k:Nat): ∀(d:Nat) (t:TypeId) (L:List CellK),layOf P d t=some L→EqL P (k+d) t L
 | 0,t,L,h=>by simp [layOf]at h
 | d+1,t,L,h=>by
  intro w xs ys x y hx hy vx vy;unfold layOf at h;cases hu:P.underlying t with
  | none=>simp [hu]at h
  | some td=>
   rw [hu]at h;simp only [VOf,hu]at vx vy;cases td with
   | int q=>
    simp only [Option.some.injEq]at h;subst h vx vy;cases x<;>simp only [fitV]at hx
    cases y<;>simp only [fitV]at hy
    obtain⟨rfl,_⟩:=hx;obtain⟨rfl,_⟩:=hy;rw [show k+(d+1)=(k+d)+1 from rfl,run_equalIn_int w _ t _ _ _ _ hu];simp [eqV]
   | bool=>
    simp only [Option.some.injEq]at h;subst h vx vy;cases x<;>simp only [fitV]at hx
    cases y<;>simp only [fitV]at hy
    rw [show k+(d+1)=(k+d)+1 from rfl,run_equalIn_bool' w _ t _ _ hu];simp [eqV]
   | string=>
    simp only [Option.some.injEq]at h;subst h vx vy;cases x<;>simp only [fitV]at hx
    cases y<;>simp only [fitV]at hy
    rw [show k+(d+1)=(k+d)+1 from rfl,run_equalIn_string w _ t _ _ hu];simp [eqV]
   | array n e=>
    simp only at h vx vy;subst vx vy;split at h
    ·rename_i l hl;split at h
     ·rename_i hs;simp only [Option.some.injEq]at h;subst h;have hs':P.cellsOf e=l.length:=by simpa using hs
      have hinfo: ∃i,P.info? e=some i:=by
       cases d with
       | zero=>simp [layOf]at hl
       | succ d=>
        cases hi:P.info? e with
        | none=>simp [layOf,Program.underlying,hi]at hl
        | some i=>exact⟨i,rfl⟩
      obtain⟨i,hi⟩:=hinfo;rw [show k+(d+1)=(k+d)+1 from rfl,run_equalIn_array w (k+d) _ _ hu hi,List.range_eq_range'];have:=run_eqItems_lay w (k+d) hl hs' (equalIn_lay k d e l hl) xs ys n 0 (by simpa using hx) (by simpa using hy);simpa using this
     ·cases h
    ·cases h
   | struct fs=>
    simp only at h vx vy;subst vx vy;split at h
    ·cases h
    ·rename_i hst;have hfs:P.fieldsOf t=fs:=by simp [Program.fieldsOf,hu]
     rw [show k+(d+1)=(k+d)+1 from rfl,run_equalIn_struct w (k+d) t _ _ (by rw [hfs];exact hu) (by simpa using hst),hfs];have:=run_eqFields_lay w (k+d) (layOf P d) d (fun _=>rfl) (equalIn_lay k d) xs ys fs.toList 0 L h (by simpa using hx) (by simpa using hy);simpa using this
   | _=>simp at h
end
end Go.RX

namespace Go.RX
theorem wrap_fits(k:IntKind)(n:Int)(h:IntKind.lo k≤n)(h':n≤IntKind.hi k):k.wrap n=n:=by
 cases k<;>simp only [IntKind.lo,IntKind.hi]at h h'<;>simp [IntKind.wrap,IntKind.bits,IntKind.signed]<;>omega
section
variable {P:Program} {ρ:Env} {w:World}
theorem fitK_den{k:IntKind}{e:E}(hvc: ∀b∈(fitK k e).2,b.prop ρ):(fitK k e).1.den ρ 0=k.wrap (e.den ρ 0):=by
 unfold fitK at hvc ⊢;split
 ·rfl
 ·rfl
 ·split
  ·rename_i hs;simp only [hs,if_true]at hvc;have h1:=hvc (.le (.lit (IntKind.lo k)) e) (by simp);have h2:=hvc (.le e (.lit (IntKind.hi k))) (by simp);simp only [BE.prop,E.den]at h1 h2;exact(wrap_fits k _ h1 h2).symm
  ·rfl
theorem convK_or(k:IntKind)(e:E):convK k e=fitK k e∨convK k e=(.wrap k e,[]):=by
 unfold convK;split
 ·split
  ·exact .inr rfl
  ·exact .inl rfl
 ·exact .inl rfl
theorem convK_den{k:IntKind}{e:E}(hvc: ∀b∈(convK k e).2,b.prop ρ):(convK k e).1.den ρ 0=k.wrap (e.den ρ 0):=by
 rcases convK_or k e with h | h
 ·rw [h]at hvc ⊢;exact fitK_den hvc
 ·rw [h];rfl
theorem fitLay_fitV: ∀{l:List SV} {L:List CellK},fitLay l L=true→fitV (SV.cellsL ρ l) L
 | [],[],_=>trivial
 | [],k::L,h=>by simp [fitLay]at h
 | x::r,L,h=>by
  unfold fitLay at h;split at h
  ·rename_i heq;cases heq
  ·rename_i k e r' k' l heq;cases heq;simp only [Bool.and_eq_true,beq_iff_eq]at h;exact⟨h.1,fitLay_fitV h.2⟩
  ·rename_i b r' l heq;cases heq;exact fitLay_fitV (l:=r) h
  ·rename_i b r' l heq;cases heq;exact fitLay_fitV (l:=r) h
  ·rename_i b r' l heq;cases heq;exact fitLay_fitV (l:=r) h
  ·rename_i L k n a r' heq;cases heq;simp only [Bool.and_eq_true,decide_eq_true_eq]at h;obtain⟨⟨h1,h2⟩,h3⟩:=h;have ih:=fitLay_fitV (l:=r) h3;simp only [SV.cellsL,SV.cells];have key: ∀(m:Nat) (f:Nat→Int) (L:List CellK) (xs:List Value),m≤L.length→(L.take m).all (· == .int k)=true→fitV xs (L.drop m)→fitV (segCells k m f++xs) L:=by
    intro m
    induction m with
    | zero=>intro f L xs _ _ hf;simpa [segCells] using hf
    | succ m ihm=>
     intro f L xs hle hall hf;cases L with
     | nil=>simp at hle
     | cons c L=>
      simp only [List.take_succ_cons,List.all_cons,Bool.and_eq_true,beq_iff_eq,List.drop_succ_cons,List.length_cons]at hall hf hle;have hc:=hall.1;subst hc;have:segCells k (m+1) f= .int k (f 0)::segCells k m (fun j=>f (j+1)):=by
       unfold segCells;rw [List.range_succ_eq_map,List.map_cons,List.map_map];rfl
      rw [this];exact⟨rfl,ihm _ L xs (by omega) hall.2 hf⟩
   exact key n _ _ _ h1 h2 ih
  ·cases h
theorem eqV_seg(k:IntKind)(n:Nat)(f g:Nat→Int)(a b:List Value):
  eqV (segCells k n f++a) (segCells k n g++b)=((List.range n).all (fun j=>f j==g j)&&eqV a b):=by
 induction n generalizing f g with
 | zero=>simp [segCells]
 | succ n ih=>
  have e: ∀h:Nat→Int,segCells k (n+1) h= .int k (h 0)::segCells k n (fun j=>h (j+1)):=by
   intro h;unfold segCells;rw [List.range_succ_eq_map,List.map_cons,List.map_map];rfl
  rw [e f,e g,List.cons_append,List.cons_append,eqV,ih,List.range_succ_eq_map,List.all_cons,List.all_map,Bool.and_assoc];rfl
theorem cellsEq_den: ∀{a b:List SV} {c:BE},cellsEq a b=some c→c.den ρ=eqV (SV.cellsL ρ a) (SV.cellsL ρ b)
 | [],[],c,h=>by simp [cellsEq]at h;subst h;rfl
 | [],y::s,c,h=>by simp [cellsEq]at h
 | x::r,b,c,h=>by
  unfold cellsEq at h;split at h
  ·rename_i heq;exact absurd heq (by simp)
  ·rename_i k e r' k' e' s heq;cases heq;split at h
   ·rename_i hk;subst hk;rw [Option.map_eq_some_iff]at h;obtain⟨d,hd,rfl⟩:=h;rw [bAnd_den,bEq_den,cellsEq_den hd];rfl
   ·cases h
  ·rename_i p r' q s heq;cases heq;rw [Option.map_eq_some_iff]at h;obtain⟨d,hd,rfl⟩:=h;rw [bAnd_den,bIte_den,bNot_den,cellsEq_den hd];simp only [SV.cellsL,SV.cells,List.singleton_append,eqV];cases p.den ρ<;>cases q.den ρ<;>rfl
  ·rename_i k n e r' k' n' e' s heq;cases heq;split at h
   ·rename_i hk;obtain⟨rfl,rfl⟩:=hk;rw [Option.map_eq_some_iff]at h;obtain⟨d,hd,rfl⟩:=h;rw [bAnd_den,cellsEq_den hd];simp only [SV.cellsL,SV.cells];rw [eqV_seg];congr 1;split
    ·rename_i he;subst he;simp [BE.den]
    ·rfl
   ·cases h
  ·rename_i y s heq;cases heq;split at h
   ·rename_i p q hp hq;rw [Option.map_eq_some_iff]at h;obtain⟨d,hd,rfl⟩:=h;rw [bAnd_den,cellsEq_den hd,bSeq_den];simp only [SV.cellsL,toStrE_cells ρ hp,toStrE_cells ρ hq,List.singleton_append,eqV,ByteArray.toList_eq]
   ·cases h
  ·cases h
theorem cellsL_ints(k:IntKind)(a:E): ∀(l:List Nat),SV.cellsL ρ (l.map fun j=>SV.int k (eSel a (.lit (j:Nat))))=l.map fun j=>Value.int k (a.den ρ j)
 | []=>rfl
 | x::r=>by simp only [List.map_cons,SV.cellsL,SV.cells,eSel_den,den_lit,Int.toNat_natCast,List.singleton_append,cellsL_ints k a r]
theorem expandR_cells: ∀(l:List SV),SV.cellsL ρ (expandR l)=SV.cellsL ρ l
 | []=>rfl
 | v::r=>by
  unfold expandR;split
  ·rename_i h;cases h
  ·rename_i k n a r' h;cases h;rw [cellsL_append,cellsL_ints,expandR_cells r];rfl
  ·rename_i v' r' _ h;cases h;simp only [SV.cellsL,expandR_cells r]
theorem cellsEqX_den{a b:List SV}{c:BE}(h:cellsEqX a b=some c):c.den ρ=eqV (SV.cellsL ρ a) (SV.cellsL ρ b):=by
 unfold cellsEqX at h;split at h
 ·rename_i c' hc;cases h;exact cellsEq_den hc
 ·rw [cellsEq_den h,expandR_cells,expandR_cells]
theorem run_eqGuard_int(op:BinOp)(t:TypeId)(x y:Operand)(k k':IntKind)(a b:Int):(eqGuard op t x y (.int k a) (.int k' b)).run P w= .ok () w:=by
 cases op<;>simp [eqGuard]
theorem run_eqGuard_bool(op:BinOp)(t:TypeId)(x y:Operand)(a b:Bool):(eqGuard op t x y (.bool a) (.bool b)).run P w= .ok () w:=by
 cases op<;>simp [eqGuard]
def guardFree:Value→Bool
 | .nilIface=>false
 | .agg _=>false
 | _=>true
theorem run_eqGuard_free(op:BinOp)(t:TypeId)(x y:Operand)(a b:Value)(h:guardFree a=true):(eqGuard op t x y a b).run P w= .ok () w:=by
 cases op<;>cases a<;>simp_all [eqGuard,guardFree]
theorem nonNeg_prop{b:E}(h: ∀c∈nonNeg b,c.prop ρ):0≤b.den ρ 0:=by
 by_cases hl:bLe (.lit 0) b= .lit true
 ·have:(bLe (.lit 0) b).den ρ=true:=by rw [hl];rfl
  rw [bLe_den]at this;exact of_decide_eq_true this
 ·have:=h (bLe (.lit 0) b) (by unfold nonNeg;simp [hl]);rw [←BE.den_iff,bLe_den]at this;exact of_decide_eq_true this
theorem run_shl(k yk:IntKind)(x y:Int)(h:0≤y):(Op.shift .shl k x yk y).run P w= .ok (.int k (k.wrap (x*2^min y.toNat k.bits))) w:=by
 simp [Op.shift,Int.not_lt.2 h]
theorem run_shr(k yk:IntKind)(x y:Int)(h:0≤y):(Op.shift .shr k x yk y).run P w= .ok (.int k (x.fdiv (2^min y.toNat k.bits))) w:=by
 simp [Op.shift,Int.not_lt.2 h]
theorem run_binInt(ti:TI){o:BinOp}{k k':IntKind}{a b:E}{res:Res}(h:binSym ti o (.int k a) (.int k' b)=some res)(hvc: ∀b∈res.vcs,b.prop ρ)(t:TypeId):
  (binOp o t (.int k (a.den ρ 0)) (.int k' (b.den ρ 0))).run P w= .ok (res.val.val ρ) w∧res.eff= .none:=by
 cases o<;>simp only [binSym]at h
 case shl=>
  simp only [Option.some.injEq]at h;subst h;exact⟨by simp only [binOp];rw [run_shl _ _ _ _ (nonNeg_prop hvc),SV.val,eBin_den];rfl,rfl⟩
 case shr=>
  simp only [Option.some.injEq]at h;subst h;exact⟨by simp only [binOp];rw [run_shr _ _ _ _ (nonNeg_prop hvc),SV.val,eBin_den];rfl,rfl⟩
 all_goals
  split at h
  ·cases h
  ·rename_i hk;simp only [ne_eq,Decidable.not_not]at hk;subst hk
   first
   | (simp at h;done)
   | (
     simp only [Option.some.injEq]at h;subst h;refine⟨?_,rfl⟩
     first
     | (simp only [binOp,ne_eq,not_true_eq_false,if_false,Op.intCmp,Sem.run_pure,SV.val,bEq_den,bNot_den,bLt_den,bLe_den];first | done | rfl)
     | (simp only [binOp,ne_eq,not_true_eq_false,if_false,Op.intBits,Sem.run_pure,SV.val,eBin_den];rfl)
     | (simp only [binOp,ne_eq,not_true_eq_false,if_false,Op.intArith,Sem.run_pure,SV.val,fitK_den hvc,eAdd_den,eSub_den,eMul_den])
     | (
      have hnz:=hvc (bNz b) (by simp);rw [←BE.den_iff,bNz_den]at hnz;have hnz':b.den ρ 0≠0:=by simpa using hnz
      simp [binOp,Op.intDiv,hnz',SV.val,eWrap_den,eBin_den,iop]))
theorem wrap_of_guardFree{ti:TI}{o:BinOp}{xo yo:Operand}{u v:Value}{r:Result Value}(hg:(eqGuard o ti.t xo yo u v).run P w= .ok () w)(h:(binOp o ti.t u v).run P w=r):
  (do eqGuard o ti.t xo yo u v;binOp o ti.t u v:Sem Value).run P w=r:=by
 simp only [Sem.run_bind,hg,Result.andThen_ok,h]
theorem run_eqlBool{t:TypeId}(ht:P.underlying t=some .bool)(a b:Bool):(binOp .eql t (.bool a) (.bool b)).run P w= .ok (.bool (a==b)) w:=by
 simp [binOp,Op.equal,Op.maxDepth,run_equalIn_bool' w 9999 t a b ht]
theorem run_neqBool{t:TypeId}(ht:P.underlying t=some .bool)(a b:Bool):(binOp .neq t (.bool a) (.bool b)).run P w= .ok (.bool (!(a==b))) w:=by
 simp [binOp,Op.equal,Op.maxDepth,run_equalIn_bool' w 9999 t a b ht]
theorem run_eqlOf{t:TypeId}{x y:Value}{b:Bool}(hb:binOp .eql t x y=(do pure (.bool (←Op.equal t x y)):Sem Value))(h: ∀d,(Op.equalIn (d+1) t x y).run P w= .ok b w):
  (binOp .eql t x y).run P w= .ok (.bool b) w:=by
 have:(Op.equal t x y).run P w= .ok b w:=h 9999;rw [hb];simp only [Sem.run_bind,this,Result.andThen_ok,Sem.run_pure]
theorem run_neqOf{t:TypeId}{x y:Value}{b:Bool}(hb:binOp .neq t x y=(do pure (.bool (!(←Op.equal t x y))):Sem Value))(h: ∀d,(Op.equalIn (d+1) t x y).run P w= .ok b w):
  (binOp .neq t x y).run P w= .ok (.bool (!b)) w:=by
 have:(Op.equal t x y).run P w= .ok b w:=h 9999;rw [hb];simp only [Sem.run_bind,this,Result.andThen_ok,Sem.run_pure]
theorem kind_ptr{u:Option TypeDesc}{e:Nat}(h:tkOk u (.ptr e)=true):u=some (.pointer e):=by
 cases u with
 | none=>simp [tkOk]at h
 | some d=>cases d<;>simp_all [tkOk]
theorem kind_slice{u:Option TypeDesc}{e:Nat}(h:tkOk u (.slice e)=true):u=some (.slice e):=by
 cases u with
 | none=>simp [tkOk]at h
 | some d=>cases d<;>simp_all [tkOk]
theorem kind_arr{u:Option TypeDesc}{n e:Nat}(h:tkOk u (.arr n e)=true):u=some (.array n e):=by
 cases u with
 | none=>simp [tkOk]at h
 | some d=>cases d<;>simp_all [tkOk]
theorem kind_int{u:Option TypeDesc}{k:IntKind}(h:tkOk u (.int k)=true):u=some (.int k):=by
 cases u with
 | none=>simp [tkOk]at h
 | some d=>cases d<;>simp_all [tkOk]
theorem kind_struct{u:Option TypeDesc}{l:List (Nat×Nat)}(h:tkOk u (.struct l)=true): ∃fs:Array Field,u=some (.struct fs)∧fs.toList.map (fun f=>(f.type,f.offset))=l:=by
 cases u with
 | none=>simp [tkOk]at h
 | some d=>cases d<;>simp_all [tkOk]
theorem kind_func{u:Option TypeDesc}(h:tkOk u .func=true): ∃a b c,u=some (.func a b c):=by
 cases u with
 | none=>simp [tkOk]at h
 | some d=>cases d<;>simp_all [tkOk]
theorem eqp1{t:TypeId}{e:Nat}(hu:P.underlying t=some (.pointer e))(d:Nat):
  (Op.equalIn (d+1) t (.pointer none) (.pointer none)).run P w= .ok true w:=by
 have hun:=run_underlying hu w;rw [Op.equalIn];simp only [Sem.run_bind,hun,Result.andThen_ok];rfl
theorem eqp2{t:TypeId}{e:Nat}{a:Addr}(hu:P.underlying t=some (.pointer e))(d:Nat):
  (Op.equalIn (d+1) t (.pointer none) (.pointer (some a))).run P w= .ok false w:=by
 have hun:=run_underlying hu w;rw [Op.equalIn];simp only [Sem.run_bind,hun,Result.andThen_ok];rfl
theorem eqp3{t:TypeId}{e:Nat}{a:Addr}(hu:P.underlying t=some (.pointer e))(d:Nat):
  (Op.equalIn (d+1) t (.pointer (some a)) (.pointer none)).run P w= .ok false w:=by
 have hun:=run_underlying hu w;rw [Op.equalIn];simp only [Sem.run_bind,hun,Result.andThen_ok];rfl
theorem eqs1{t:TypeId}{e n m n' m':Nat}(hu:P.underlying t=some (.slice e))(d:Nat):
  (Op.equalIn (d+1) t (.slice none n m) (.slice none n' m')).run P w= .ok true w:=by
 have hun:=run_underlying hu w;rw [Op.equalIn];simp only [Sem.run_bind,hun,Result.andThen_ok];rfl
theorem eqs2{t:TypeId}{e n m n' m':Nat}{a:Addr}(hu:P.underlying t=some (.slice e))(d:Nat):
  (Op.equalIn (d+1) t (.slice none n m) (.slice (some a) n' m')).run P w= .ok false w:=by
 have hun:=run_underlying hu w;rw [Op.equalIn];simp only [Sem.run_bind,hun,Result.andThen_ok];rfl
theorem eqs3{t:TypeId}{e n m n' m':Nat}{a:Addr}(hu:P.underlying t=some (.slice e))(d:Nat):
  (Op.equalIn (d+1) t (.slice (some a) n m) (.slice none n' m')).run P w= .ok false w:=by
 have hun:=run_underlying hu w;rw [Op.equalIn];simp only [Sem.run_bind,hun,Result.andThen_ok];rfl
theorem eqf1{t:TypeId}{x:Array TypeId}{y:Array TypeId}{z:Bool}(hu:P.underlying t=some (.func x y z))(d:Nat):
  (Op.equalIn (d+1) t .nilFunc .nilFunc).run P w= .ok true w:=by
 have hun:=run_underlying hu w;rw [Op.equalIn];simp only [Sem.run_bind,hun,Result.andThen_ok];rfl
theorem eqf2{t:TypeId}{x:Array TypeId}{y:Array TypeId}{z:Bool}{f:Fn}{a b:Array Value}(hu:P.underlying t=some (.func x y z))(d:Nat):
  (Op.equalIn (d+1) t .nilFunc (.func f a b)).run P w= .ok false w:=by
 have hun:=run_underlying hu w;rw [Op.equalIn];simp only [Sem.run_bind,hun,Result.andThen_ok];rfl
theorem eqf3{t:TypeId}{x:Array TypeId}{y:Array TypeId}{z:Bool}{f:Fn}{a b:Array Value}(hu:P.underlying t=some (.func x y z))(d:Nat):
  (Op.equalIn (d+1) t (.func f a b) .nilFunc).run P w= .ok false w:=by
 have hun:=run_underlying hu w;rw [Op.equalIn];simp only [Sem.run_bind,hun,Result.andThen_ok];rfl
theorem eqp4{t:TypeId}{e:Nat}(hu:P.underlying t=some (.pointer e))(y:Int)(d:Nat):
  (Op.equalIn (d+1) t (.pointer none) (ptrV y)).run P w= .ok (y==0) w:=by
 unfold ptrV;split
 ·rename_i h;subst h;exact eqp1 hu d
 ·rename_i h;rw [show(y==(0:Int))=false by simpa using h];exact eqp2 hu d
theorem eqp5{t:TypeId}{e:Nat}(hu:P.underlying t=some (.pointer e))(y:Int)(d:Nat):
  (Op.equalIn (d+1) t (ptrV y) (.pointer none)).run P w= .ok (y==0) w:=by
 unfold ptrV;split
 ·rename_i h;subst h;exact eqp1 hu d
 ·rename_i h;rw [show(y==(0:Int))=false by simpa using h];exact eqp3 hu d
theorem ptrV_free(y:Int):guardFree (ptrV y)=true:=by unfold ptrV;split<;>rfl
theorem ptrEq_run{ti:TI}(hti:TInfo P ti){x y:SV}{c:BE}(h:ptrEq ti.k x y=some c):
  guardFree (x.val ρ)=true∧(binOp .eql ti.t (x.val ρ) (y.val ρ)).run P w= .ok (.bool (c.den ρ)) w∧(binOp .neq ti.t (x.val ρ) (y.val ρ)).run P w= .ok (.bool (!c.den ρ)) w:=by
 have hk:=hti.kind;generalize ti.k=kk at h hk;unfold ptrEq at h;split at h
 ·cases h;exact⟨rfl,run_eqlOf rfl fun d=>eqp1 (kind_ptr hk) d,run_neqOf rfl fun d=>eqp1 (kind_ptr hk) d⟩
 ·cases h;exact⟨rfl,run_eqlOf rfl fun d=>eqp2 (kind_ptr hk) d,run_neqOf rfl fun d=>eqp2 (kind_ptr hk) d⟩
 ·cases h;exact⟨rfl,run_eqlOf rfl fun d=>eqp3 (kind_ptr hk) d,run_neqOf rfl fun d=>eqp3 (kind_ptr hk) d⟩
 ·cases h;exact⟨rfl,run_eqlOf rfl fun d=>eqp2 (kind_ptr hk) d,run_neqOf rfl fun d=>eqp2 (kind_ptr hk) d⟩
 ·cases h;exact⟨rfl,run_eqlOf rfl fun d=>eqp3 (kind_ptr hk) d,run_neqOf rfl fun d=>eqp3 (kind_ptr hk) d⟩
 ·cases h;exact⟨rfl,run_eqlOf rfl fun d=>by rw [bEq_den];exact eqp4 (kind_ptr hk) _ d,run_neqOf rfl fun d=>by rw [bEq_den];exact eqp4 (kind_ptr hk) _ d⟩
 ·cases h;exact⟨ptrV_free _,run_eqlOf (by simp only [SV.val];unfold ptrV;split<;>rfl) fun d=>by rw [bEq_den];exact eqp5 (kind_ptr hk) _ d,run_neqOf (by simp only [SV.val];unfold ptrV;split<;>rfl) fun d=>by rw [bEq_den];exact eqp5 (kind_ptr hk) _ d⟩
 ·cases h;exact⟨rfl,run_eqlOf rfl fun d=>eqs1 (kind_slice hk) d,run_neqOf rfl fun d=>eqs1 (kind_slice hk) d⟩
 ·cases h;exact⟨rfl,run_eqlOf rfl fun d=>eqs2 (kind_slice hk) d,run_neqOf rfl fun d=>eqs2 (kind_slice hk) d⟩
 ·cases h;exact⟨rfl,run_eqlOf rfl fun d=>eqs3 (kind_slice hk) d,run_neqOf rfl fun d=>eqs3 (kind_slice hk) d⟩
 ·cases h;obtain⟨_,_,_,hu⟩:=kind_func hk;exact⟨rfl,run_eqlOf rfl fun d=>eqf1 hu d,run_neqOf rfl fun d=>eqf1 hu d⟩
 ·cases h;obtain⟨_,_,_,hu⟩:=kind_func hk;exact⟨rfl,run_eqlOf rfl fun d=>eqf2 hu d,run_neqOf rfl fun d=>eqf2 hu d⟩
 ·cases h;obtain⟨_,_,_,hu⟩:=kind_func hk;exact⟨rfl,run_eqlOf rfl fun d=>eqf3 hu d,run_neqOf rfl fun d=>eqf3 hu d⟩
 ·cases h;obtain⟨_,_,_,hu⟩:=kind_func hk;exact⟨rfl,run_eqlOf rfl fun d=>eqf3 hu d,run_neqOf rfl fun d=>eqf3 hu d⟩
 ·cases h
theorem ba_toList(l:List UInt8):(⟨l.toArray⟩:ByteArray).toList=l:=by rw [ByteArray.toList_eq]
theorem run_str_eql(t:TypeId)(a b:List UInt8):(binOp .eql t (.string ⟨a.toArray⟩) (.string ⟨b.toArray⟩)).run P w= .ok (.bool (a==b)) w:=by
 rw [binOp_string_eql,ba_toList,ba_toList];rfl
theorem run_str_neq(t:TypeId)(a b:List UInt8):(binOp .neq t (.string ⟨a.toArray⟩) (.string ⟨b.toArray⟩)).run P w= .ok (.bool (!(a==b))) w:=by
 rw [binOp_string_neq,ba_toList,ba_toList];rfl
theorem ba_append(a b:List UInt8):(⟨a.toArray⟩:ByteArray)++⟨b.toArray⟩=⟨(a++b).toArray⟩:=by
 apply ByteArray.ext;rw [ByteArray.data_append];simp
theorem run_str_add(t:TypeId)(a b:List UInt8)(h:a.length+b.length≤9223372036854775807):(binOp .add t (.string ⟨a.toArray⟩) (.string ⟨b.toArray⟩)).run P w= .ok (.string ⟨(a++b).toArray⟩) w:=by
 rw [binOp_string_add,run_string_add_sum w _ _ (by simpa [ByteArray.size] using h),ba_append]
theorem strBin_run{ti:TI}{o:BinOp}{xo yo:Operand}{x y:SV}{res:Res}(h:strBin o x y=some res)(hvc: ∀b∈res.vcs,b.prop ρ):
  (do eqGuard o ti.t xo yo (x.val ρ) (y.val ρ);binOp o ti.t (x.val ρ) (y.val ρ):Sem Value).run P w= .ok (res.val.val ρ) w∧res.eff= .none:=by
 unfold strBin at h;split at h
 ·rename_i a b;split at h
  ·split at h
   ·rename_i hl;cases h;exact⟨wrap_of_guardFree (run_eqGuard_free _ _ _ _ _ _ rfl) (run_str_add _ _ _ (by omega)),rfl⟩
   ·cases h
  ·cases h;exact⟨wrap_of_guardFree (run_eqGuard_free _ _ _ _ _ _ rfl) (run_str_eql _ _ _),rfl⟩
  ·cases h;exact⟨wrap_of_guardFree (run_eqGuard_free _ _ _ _ _ _ rfl) (run_str_neq _ _ _),rfl⟩
  ·cases h
 ·split at h
  ·rename_i a b ha hb;have ea:=toStrE_val ρ ha;have eb:=toStrE_val ρ hb;rw [ea,eb];split at h
   ·cases h;have n1:0≤(eLen a).den ρ 0:=nonNeg_prop (b:=eLen a) fun c hc=>hvc c (List.mem_append_left _ (List.mem_append_left _ hc))
    have n2:0≤(eLen b).den ρ 0:=nonNeg_prop (b:=eLen b) fun c hc=>hvc c (List.mem_append_left _ (List.mem_append_right _ hc))
    have n3:=hvc _ (List.mem_append_right _ (List.mem_singleton.2 rfl));rw [←BE.den_iff,bLe_den]at n3;have n3:=of_decide_eq_true n3;rw [eAdd_den]at n3;rw [eLen_den]at n1 n2 n3;rw [eLen_den]at n3;simp only [den_lit]at n3;refine⟨wrap_of_guardFree (run_eqGuard_free _ _ _ _ _ _ rfl) ?_,rfl⟩;rw [run_str_add _ _ _ (by rw [strD_length,strD_length];omega),SV.val,eCat_den ρ a b n1 n2]
   ·cases h;refine⟨wrap_of_guardFree (run_eqGuard_free _ _ _ _ _ _ rfl) ?_,rfl⟩;rw [run_str_eql,SV.val,bSeq_den]
   ·cases h;refine⟨wrap_of_guardFree (run_eqGuard_free _ _ _ _ _ _ rfl) ?_,rfl⟩;rw [run_str_neq,SV.val,bNot_den,bSeq_den]
   ·cases h
  ·cases h
theorem run_binOp{ti:TI}(hti:TInfo P ti){o:BinOp}{xo yo:Operand}{x y:SV}{res:Res}(h:binSym ti o x y=some res)(hvc: ∀b∈res.vcs,b.prop ρ):
  (do eqGuard o ti.t xo yo (x.val ρ) (y.val ρ);binOp o ti.t (x.val ρ) (y.val ρ):Sem Value).run P w= .ok (res.val.val ρ) w∧res.eff= .none:=by
 cases x with
 | int k a=>
  cases y with
  | int k' b=>
   obtain⟨h1,h2⟩:=run_binInt (w:=w) ti h hvc ti.t;exact⟨wrap_of_guardFree (run_eqGuard_int _ _ _ _ _ _ _ _) h1,h2⟩
  | _=>simp [binSym,ptrEq,strBin,toStrE]at h
 | bool a=>
  cases y with
  | bool b=>
   simp only [binSym]at h;split at h
   ·cases h
   ·rename_i hk;simp only [ne_eq,Decidable.not_not]at hk;have hkk:=hti.kind;rw [hk]at hkk;have hu:P.underlying ti.t=some .bool:=by
     unfold tkOk at hkk;split at hkk<;>simp_all
    split at h
    ·simp only [Option.some.injEq]at h;subst h;refine⟨wrap_of_guardFree (run_eqGuard_bool _ _ _ _ _ _) ?_,rfl⟩;rw [SV.val,SV.val,run_eqlBool hu,SV.val,bIte_den,bNot_den];cases a.den ρ<;>cases b.den ρ<;>rfl
    ·simp only [Option.some.injEq]at h;subst h;refine⟨wrap_of_guardFree (run_eqGuard_bool _ _ _ _ _ _) ?_,rfl⟩;rw [SV.val,SV.val,run_neqBool hu,SV.val,bNot_den,bIte_den,bNot_den];cases a.den ρ<;>cases b.den ρ<;>rfl
    ·cases h
  | _=>simp [binSym,ptrEq,strBin,toStrE]at h
 | agg a=>
  cases y with
  | agg b=>
   simp only [binSym]at h;split at h
   ·cases h
   ·rename_i hl;simp only [Bool.or_eq_true,Bool.not_eq_true',not_or,Bool.not_eq_true,Bool.not_eq_false]at hl;obtain⟨⟨⟨hl0,hl1⟩,hl2⟩,hl3⟩:=hl;rcases hti.lay with he | ⟨hlay,hguard⟩
    ·rw [hl1]at he;cases he
    ·have hE:=equalIn_lay (P:=P) 9988 12 ti.t _ hlay w _ _ (.agg (SV.cellsL ρ a).toArray) (.agg (SV.cellsL ρ b).toArray) (fitLay_fitV (ρ:=ρ) hl2) (fitLay_fitV (ρ:=ρ) hl3);have hV: ∀cs:List Value,VOf P ti.t cs (.agg cs.toArray):=by
      intro cs;have hkk:=hti.kind;unfold tkOk at hkk;unfold VOf;split at hkk
      all_goals first
       | (rename_i hkd;rw [hkd]at hl0;simp [TK.agg]at hl0;done)
       | (rename_i hu _;rw [hu])
       | cases hkk
     have hE':=hE (hV _) (hV _);have hg: ∀o:BinOp,(eqGuard o ti.t xo yo (.agg (SV.cellsL ρ a).toArray) (.agg (SV.cellsL ρ b).toArray)).run P w= .ok () w:=fun o=>run_eqGuard_agg w o ti.t xo yo _ _ hguard
     split at h
     ·rename_i c hc;simp only [Option.some.injEq]at h;subst h;refine⟨wrap_of_guardFree (hg _) ?_,rfl⟩;simp only [SV.val];rw [run_eql_struct,hE',Result.andThen_ok,cellsEqX_den hc]
     ·rename_i c hc;simp only [Option.some.injEq]at h;subst h;refine⟨wrap_of_guardFree (hg _) ?_,rfl⟩;simp only [SV.val];rw [run_neq_struct,hE',Result.andThen_ok,bNot_den,cellsEqX_den hc]
     ·cases h
  | _=>simp [binSym,ptrEq,strBin,toStrE]at h
 | _=>
  simp only [binSym]at h;split at h
  ·exact strBin_run h hvc
  split at h
  ·rename_i c hc;simp only [Option.some.injEq]at h;subst h;obtain⟨h1,h2,_⟩:=ptrEq_run (ρ:=ρ) (w:=w) hti hc;exact⟨wrap_of_guardFree (run_eqGuard_free _ _ _ _ _ _ h1) h2,rfl⟩
  ·rename_i c hc;simp only [Option.some.injEq]at h;subst h;obtain⟨h1,_,h2⟩:=ptrEq_run (ρ:=ρ) (w:=w) hti hc;refine⟨wrap_of_guardFree (run_eqGuard_free _ _ _ _ _ _ h1) ?_,rfl⟩;rw [h2];simp [SV.val,bNot_den]
  ·cases h
end
end Go.RX
