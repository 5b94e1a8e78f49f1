/- A reflective symbolic executor, part 11: equality of values that are made of integers and bools. -/
import Derived.Test.YtfnaoeleljhmhaaGreatRxJ
import Derived.ChangeKeysEq

namespace Go.RX
def fitV:List Value→List CellK→Prop
 | [],[]=>True
 | .int q _::r,.int q'::l=>q=q'∧fitV r l
 | .bool _::r,.bool::l=>fitV r l
 | .string _::r,.str::l=>fitV r l
 | _,_=>False
def eqV:List Value→List Value→Bool
 | [],[]=>true
 | .int _ a::r,.int _ b::s=>a==b&&eqV r s
 | .bool a::r,.bool b::s=>a==b&&eqV r s
 | .string a::r,.string b::s=>a.toList==b.toList&&eqV r s
 | _,_=>false
theorem fitV_length: ∀{xs:List Value} {l:List CellK},fitV xs l→xs.length=l.length
 | [],[],_=>rfl
 | x::r,[],h=>by cases x<;>simp [fitV]at h
 | [],k::l,h=>by simp [fitV]at h
 | x::r,k::l,h=>by
  have:fitV r l:=by cases x<;>cases k<;>simp_all [fitV]
  simp [fitV_length this]
theorem fitV_append: ∀{l1:List CellK} {xs:List Value} {l2:List CellK},fitV xs (l1++l2)→fitV (xs.take l1.length) l1∧fitV (xs.drop l1.length) l2
 | [],xs,l2,h=>by simpa [fitV] using h
 | k::l1,[],l2,h=>by simp [fitV]at h
 | k::l1,x::r,l2,h=>by
  simp only [List.cons_append,List.length_cons,List.take_succ_cons,List.drop_succ_cons]at h ⊢;cases x<;>cases k<;>simp only [fitV]at h ⊢
  ·exact fitV_append h
  ·exact⟨⟨h.1,(fitV_append h.2).1⟩,(fitV_append h.2).2⟩
  ·exact fitV_append h
theorem eqV_append: ∀{l:List CellK} {a c b d:List Value},fitV a l→fitV c l→eqV (a++b) (c++d)=(eqV a c&&eqV b d)
 | [],a,c,b,d,ha,hc=>by
  have h1:=fitV_length ha;have h2:=fitV_length hc;have:a=[]:=List.eq_nil_of_length_eq_zero h1;have:c=[]:=List.eq_nil_of_length_eq_zero h2
  subst_vars
  simp [eqV]
 | k::l,[],c,b,d,ha,hc=>by simp [fitV]at ha
 | k::l,x::a,[],b,d,ha,hc=>by simp [fitV]at hc
 | k::l,x::a,y::c,b,d,ha,hc=>by
  cases x<;>cases k<;>simp only [fitV]at ha<;>cases y<;>simp only [fitV]at hc
  ·simp only [List.cons_append,eqV,eqV_append ha hc,Bool.and_assoc]
  ·simp only [List.cons_append,eqV,eqV_append ha.2 hc.2,Bool.and_assoc]
  ·simp only [List.cons_append,eqV,eqV_append ha hc,Bool.and_assoc]
def VOf(P:Program)(t:TypeId)(cs:List Value)(x:Value):Prop:=
 match P.underlying t with
 | some (.struct _)=>x= .agg cs.toArray
 | some (.array _ _)=>x= .agg cs.toArray
 | _=>cs=[x]
section
variable {P:Program}
theorem run_part_lay(w:World){d:Nat}{t:TypeId}{l:List CellK}(hl:layOf P d t=some l)(hs:P.cellsOf t=l.length)(cs:List Value)(off:Nat)
  (hf:fitV ((cs.drop off).take l.length) l): ∃x,(part t cs.toArray off).run P w= .ok x w∧VOf P t ((cs.drop off).take l.length) x:=by
 have hinfo: ∃i,P.info? t=some i∧i.size=l.length:=by
  cases d with
  | zero=>simp [layOf]at hl
  | succ d=>
   cases hi:P.info? t with
   | none=>simp [layOf,Program.underlying,hi]at hl
   | some i=>exact⟨i,rfl,by simpa [Program.cellsOf,hi] using hs⟩
 obtain⟨i,hi,hsz⟩:=hinfo;have hso:(sizeOf t).run P w= .ok l.length w:=by simp [sizeOf,typeInfo,hi,hsz]
 cases d with
 | zero=>simp [layOf]at hl
 | succ d=>
  unfold layOf at hl;cases hu:P.underlying t with
  | none=>simp [hu]at hl
  | some td=>
   have hun:=run_underlying hu w;rw [hu]at hl;cases td with
   | int k=>
    simp only [Option.some.injEq]at hl;subst hl;have hlen:=fitV_length hf;simp only [List.length_cons,List.length_nil]at hlen hf;cases hc:cs[off]? with
    | none=>
     rw [List.getElem?_eq_none_iff]at hc;rw [List.drop_of_length_le hc]at hlen;simp at hlen
    | some x=>
     refine⟨x,by simp [part,isAgg,hun,hc],?_⟩;simp only [VOf,hu];have:off<cs.length:=(List.getElem?_eq_some_iff.1 hc).1;rw [List.drop_eq_getElem_cons this];simp [(List.getElem?_eq_some_iff.1 hc).2]
   | bool=>
    simp only [Option.some.injEq]at hl;subst hl;have hlen:=fitV_length hf;simp only [List.length_cons,List.length_nil]at hlen hf;cases hc:cs[off]? with
    | none=>
     rw [List.getElem?_eq_none_iff]at hc;rw [List.drop_of_length_le hc]at hlen;simp at hlen
    | some x=>
     refine⟨x,by simp [part,isAgg,hun,hc],?_⟩;simp only [VOf,hu];have:off<cs.length:=(List.getElem?_eq_some_iff.1 hc).1;rw [List.drop_eq_getElem_cons this];simp [(List.getElem?_eq_some_iff.1 hc).2]
   | string=>
    simp only [Option.some.injEq]at hl;subst hl;have hlen:=fitV_length hf;simp only [List.length_cons,List.length_nil]at hlen hf;cases hc:cs[off]? with
    | none=>
     rw [List.getElem?_eq_none_iff]at hc;rw [List.drop_of_length_le hc]at hlen;simp at hlen
    | some x=>
     refine⟨x,by simp [part,isAgg,hun,hc],?_⟩;simp only [VOf,hu];have:off<cs.length:=(List.getElem?_eq_some_iff.1 hc).1;rw [List.drop_eq_getElem_cons this];simp [(List.getElem?_eq_some_iff.1 hc).2]
   | array n e=>
    refine⟨_,by simp [part,isAgg,hun,hso];rfl,?_⟩;simp only [VOf,hu]
   | struct fs=>
    refine⟨_,by simp [part,isAgg,hun,hso];rfl,?_⟩;simp only [VOf,hu]
   | _=>simp at hl
def EqL(P:Program)(dd:Nat)(t:TypeId)(l:List CellK):Prop:=
 ∀(w:World) (xs ys:List Value) (x y:Value),fitV xs l→fitV ys l→VOf P t xs x→VOf P t ys y→(Op.equalIn dd t x y).run P w= .ok (eqV xs ys) w
theorem run_eqItems_lay(w:World)(dd:Nat){d:Nat}{e:TypeId}{l:List CellK}(hl:layOf P d e=some l)(hs:P.cellsOf e=l.length)(IH:EqL P dd e l)(xs ys:List Value):
  ∀(m k:Nat),fitV (xs.drop (k*l.length)) (List.replicate m l).flatten→fitV (ys.drop (k*l.length)) (List.replicate m l).flatten→
   (Op.eqItems dd e (P.cellsOf e) xs.toArray ys.toArray (List.range' k m)).run P w= .ok (eqV (xs.drop (k*l.length)) (ys.drop (k*l.length))) w
 | 0,k,hx,hy=>by
  have h1:xs.drop (k*l.length)=[]:=List.eq_nil_of_length_eq_zero (by simpa using fitV_length hx);have h2:ys.drop (k*l.length)=[]:=List.eq_nil_of_length_eq_zero (by simpa using fitV_length hy);rw [h1,h2];simp [Op.eqItems,eqV]
 | m+1,k,hx,hy=>by
  rw [List.replicate_succ,List.flatten_cons]at hx hy;obtain⟨hx1,hx2⟩:=fitV_append hx;obtain⟨hy1,hy2⟩:=fitV_append hy;rw [List.drop_drop]at hx2 hy2;obtain⟨a,pa,va⟩:=run_part_lay w hl hs xs (k*l.length) hx1;obtain⟨b,pb,vb⟩:=run_part_lay w hl hs ys (k*l.length) hy1;have hab:=IH w _ _ a b hx1 hy1 va vb;have ih:=run_eqItems_lay w dd hl hs IH xs ys m (k+1) (by rw [Nat.add_mul,Nat.one_mul];exact hx2) (by rw [Nat.add_mul,Nat.one_mul];exact hy2);rw [Nat.add_mul,Nat.one_mul]at ih;have hsplit:eqV (xs.drop (k*l.length)) (ys.drop (k*l.length))=
    (eqV ((xs.drop (k*l.length)).take l.length) ((ys.drop (k*l.length)).take l.length)&&eqV (xs.drop (k*l.length+l.length)) (ys.drop (k*l.length+l.length))):=by
   rw [←eqV_append hx1 hy1,←List.drop_drop,←List.drop_drop,List.take_append_drop,List.take_append_drop]
  rw [List.range'_succ];simp only [Op.eqItems,Sem.run_bind,hs,pa,pb,hab,Result.andThen_ok];rw [hs]at ih;rw [hsplit];cases eqV ((xs.drop (k*l.length)).take l.length) ((ys.drop (k*l.length)).take l.length)
  ·simp
  ·simpa using ih
theorem run_eqFields_lay(w:World)(dd:Nat)(f:TypeId→Option (List CellK))(d:Nat)(hfd: ∀t,f t=layOf P d t)(IH: ∀t l,layOf P d t=some l→EqL P dd t l)(xs ys:List Value):
  ∀(fs:List Field) (off:Nat) (L:List CellK),layFields P f fs off=some L→fitV (xs.drop off) L→fitV (ys.drop off) L→
   (Op.eqFields dd xs.toArray ys.toArray fs).run P w= .ok (eqV (xs.drop off) (ys.drop off)) w
 | [],off,L,h,hx,hy=>by
  simp only [layFields,Option.some.injEq]at h;subst h;have h1:xs.drop off=[]:=List.eq_nil_of_length_eq_zero (by simpa using fitV_length hx);have h2:ys.drop off=[]:=List.eq_nil_of_length_eq_zero (by simpa using fitV_length hy);rw [h1,h2];simp [Op.eqFields,eqV]
 | fd::fs,off,L,h,hx,hy=>by
  unfold layFields at h;split at h
  ·cases h
  ·rename_i hn;simp only [Bool.or_eq_true,beq_iff_eq,bne_iff_ne,ne_eq,not_or,Decidable.not_not]at hn;obtain⟨hn,rfl⟩:=hn;split at h
   ·rename_i l hl;split at h
    ·rename_i hs;rw [Option.map_eq_some_iff]at h;obtain⟨L',hL',rfl⟩:=h;rw [hfd]at hl;have hs':P.cellsOf fd.type=l.length:=by simpa using hs
     obtain⟨hx1,hx2⟩:=fitV_append hx;obtain⟨hy1,hy2⟩:=fitV_append hy;rw [List.drop_drop]at hx2 hy2;obtain⟨a,pa,va⟩:=run_part_lay w hl hs' xs fd.offset hx1;obtain⟨b,pb,vb⟩:=run_part_lay w hl hs' ys fd.offset hy1;have hab:=IH _ _ hl w _ _ a b hx1 hy1 va vb;have ih:=run_eqFields_lay w dd f d hfd IH xs ys fs (fd.offset+l.length) L' hL' hx2 hy2;have hsplit:eqV (xs.drop fd.offset) (ys.drop fd.offset)=
       (eqV ((xs.drop fd.offset).take l.length) ((ys.drop fd.offset).take l.length)&&eqV (xs.drop (fd.offset+l.length)) (ys.drop (fd.offset+l.length))):=by
      rw [←eqV_append hx1 hy1,←List.drop_drop,←List.drop_drop,List.take_append_drop,List.take_append_drop]
     simp only [Op.eqFields,hn,ne_eq,not_false_eq_true,if_true,Sem.run_bind,pa,pb,hab,Result.andThen_ok];rw [hsplit];cases eqV ((xs.drop fd.offset).take l.length) ((ys.drop fd.offset).take l.length)
     ·simp
     ·simpa using ih
    ·cases h
   ·cases h
theorem equalIn_lay(k:Nat): ∀(d:Nat) (t:TypeId) (L:List CellK),layOf P d t=some L→EqL P (k+d) t L
 | 0,t,L,h=>by simp [layOf]at h
 | d+1,t,L,h=>by
  intro w xs ys x y hx hy vx vy;unfold layOf at h;cases hu:P.underlying t with
  | none=>simp [hu]at h
  | some td=>
   rw [hu]at h;simp only [VOf,hu]at vx vy;cases td with
   | int q=>
    simp only [Option.some.injEq]at h;subst h vx vy;cases x<;>simp only [fitV]at hx
    cases y<;>simp only [fitV]at hy
    obtain⟨rfl,_⟩:=hx;obtain⟨rfl,_⟩:=hy;rw [show k+(d+1)=(k+d)+1 from rfl,run_equalIn_int w _ t _ _ _ _ hu];simp [eqV]
   | bool=>
    simp only [Option.some.injEq]at h;subst h vx vy;cases x<;>simp only [fitV]at hx
    cases y<;>simp only [fitV]at hy
    rw [show k+(d+1)=(k+d)+1 from rfl,run_equalIn_bool' w _ t _ _ hu];simp [eqV]
   | string=>
    simp only [Option.some.injEq]at h;subst h vx vy;cases x<;>simp only [fitV]at hx
    cases y<;>simp only [fitV]at hy
    rw [show k+(d+1)=(k+d)+1 from rfl,run_equalIn_string w _ t _ _ hu];simp [eqV]
   | array n e=>
    simp only at h vx vy;subst vx vy;split at h
    ·rename_i l hl;split at h
     ·rename_i hs;simp only [Option.some.injEq]at h;subst h;have hs':P.cellsOf e=l.length:=by simpa using hs
      have hinfo: ∃i,P.info? e=some i:=by
       cases d with
       | zero=>simp [layOf]at hl
       | succ d=>
        cases hi:P.info? e with
        | none=>simp [layOf,Program.underlying,hi]at hl
        | some i=>exact⟨i,rfl⟩
      obtain⟨i,hi⟩:=hinfo;rw [show k+(d+1)=(k+d)+1 from rfl,run_equalIn_array w (k+d) _ _ hu hi,List.range_eq_range'];have:=run_eqItems_lay w (k+d) hl hs' (equalIn_lay k d e l hl) xs ys n 0 (by simpa using hx) (by simpa using hy);simpa using this
     ·cases h
    ·cases h
   | struct fs=>
    simp only at h vx vy;subst vx vy;split at h
    ·cases h
    ·rename_i hst;have hfs:P.fieldsOf t=fs:=by simp [Program.fieldsOf,hu]
     rw [show k+(d+1)=(k+d)+1 from rfl,run_equalIn_struct w (k+d) t _ _ (by rw [hfs];exact hu) (by simpa using hst),hfs];have:=run_eqFields_lay w (k+d) (layOf P d) d (fun _=>rfl) (equalIn_lay k d) xs ys fs.toList 0 L h (by simpa using hx) (by simpa using hy);simpa using this
   | _=>simp at h
end
end Go.RX
