/- A reflective symbolic executor, part 7: the type table; loads and stores. · A reflective symbolic executor, part 8: tables of rows; reading and writing memory. -/
import Derived.Test.YtfnaoeleljhmhaaGreatM03
import Derived.Laws.IdiomCopy

namespace Go.RX
def tkOk:Option TypeDesc→TK→Bool
 | some (.int k),.int k'=>k==k'
 | some .bool,.bool=>true
 | some .string,.str=>true
 | some (.pointer e),.ptr e'=>e==e'
 | some (.slice e),.slice e'=>e==e'
 | some (.array n e),.arr n' e'=>n==n'&&e==e'
 | some (.struct fs),.struct l=>fs.toList.map (fun f=>(f.type,f.offset))==l
 | some (.struct fs),.bld l _=>fs.toList.map (fun f=>(f.type,f.offset))==l
 | some (.map k e),.map k' e'=>k==k'&&e==e'
 | some (.func ..),.func=>true
 | some (.interface _),.iface=>true
 | _,_=>false
def isInt(k:IntKind)(m:Int):Value→Bool
 | .int k' n=>k==k'&&n==m
 | _=>false
def zhead(x:SV)(vs:List Value):Option (List Value):=
 match x with
 | .seg k n (.lit m)=>if n≤vs.length∧(vs.take n).all (isInt k m)=true then some (vs.drop n)else none
 | x=>match vs with
  | v::r=>match ofValue v with
   | some y=>match x,y with
    | .int k (.lit m),.int k' (.lit m')=>if k=k'∧m=m' then some r else none
    | .bool (.lit b),.bool (.lit b')=>if b=b' then some r else none
    | .nilp,.nilp=>some r
    | .nils,.nils=>some r
    | .nilf,.nilf=>some r
    | .nili,.nili=>some r
    | .nilm,.nilm=>some r
    | .str l,.str l'=>if l=l' then some r else none
    | _,_=>none
   | none=>none
  | []=>none
def zsame:List Value→List SV→Bool
 | vs,[]=>vs.isEmpty
 | vs,x::r=>match zhead x vs with
  | some vs'=>zsame vs' r
  | none=>false
theorem isInt_eq{k:IntKind}{m:Int}{v:Value}(h:isInt k m v=true):v= .int k m:=by
 cases v<;>simp_all [isInt]
theorem zhead_cells(ρ:Env){x:SV}{vs vs':List Value}(h:zhead x vs=some vs'):vs=SV.cells ρ x++vs':=by
 unfold zhead at h;split at h
 ·rename_i k n m;split at h
  ·rename_i hc;simp only [Option.some.injEq]at h;subst h;have:segCells k n (E.den ρ (.lit m))=vs.take n:=by
    apply List.ext_getElem?;intro j;rw [segCells_getElem?];by_cases hj:j<n
    ·rw [if_pos hj,List.getElem?_take_of_lt hj];have hlt:j<vs.length:=by omega
     rw [List.getElem?_eq_getElem hlt];have:=List.all_eq_true.1 hc.2 vs[j] (by
      rw [←List.getElem_take (xs:=vs) (j:=n) (h:=by simp;omega)];exact List.getElem_mem _)
     rw [isInt_eq this];rfl
    ·rw [if_neg hj,List.getElem?_eq_none (by simp;omega)]
   simp only [SV.cells,this,List.take_append_drop]
  ·cases h
 ·split at h
  ·rename_i v r;split at h
   ·rename_i y hy;have hv:=ofValue_val ρ v y hy;subst hv;split at h
    all_goals first
     | (simp only [Option.some.injEq]at h;subst h;rfl)
     | (
       split at h
       ·rename_i hc;simp only [Option.some.injEq]at h;subst h
        first | (obtain⟨rfl,rfl⟩:=hc;rfl) | (subst hc;rfl)
       ·cases h)
     | cases h
   ·cases h
  ·cases h
theorem zsame_cells(ρ:Env): ∀(l:List SV) (vs:List Value),zsame vs l=true→SV.cellsL ρ l=vs
 | [],vs,h=>by
  cases vs with
  | nil=>rfl
  | cons v r=>simp [zsame]at h
 | x::r,vs,h=>by
  unfold zsame at h;split at h
  ·rename_i vs' hz;rw [zhead_cells ρ hz,SV.cellsL,zsame_cells ρ r vs' h]
  ·cases h
def layFields(P:Program)(f:TypeId→Option (List CellK)):List Field→Nat→Option (List CellK)
 | [],_=>some []
 | fd::r,off=>
  if fd.name== "_" ||fd.offset != off then none else
  match f fd.type with
  | some l=>if P.cellsOf fd.type==l.length then(layFields P f r (off+l.length)).map (l++ ·)else none
  | none=>none
def layOf(P:Program):Nat→TypeId→Option (List CellK)
 | 0,_=>none
 | d+1,t=>
  match P.underlying t with
  | some (.int k)=>some [.int k]
  | some .bool=>some [.bool]
  | some .string=>some [.str]
  | some (.array n e)=>match layOf P d e with
   | some l=>if P.cellsOf e==l.length then some (List.replicate n l).flatten else none
   | none=>none
  | some (.struct fs)=>if P.stoodInHeld t then none else layFields P (layOf P d) fs.toList 0
  | _=>none
def layOk(P:Program)(ti:TI):Bool:=
 ti.lay.isEmpty||(layOf P 12 ti.t==some (layCells ti.lay)&& !P.eqGuardType P.depth ti.t)
def msOk(P:Program)(ti:TI):Bool:=ti.ms.all fun x=>
 match P.underlying ti.t,P.info? ti.t with
 | some (.pointer _),some i=>match i.methods.find? (·.name==x.1)with
  | some m=>m.path.isEmpty&&m.func==some (x.2,true)
  | none=>false
 | _,_=>false
def tiOk(P:Program)(ti:TI):Bool:=
 msOk P ti&&(tkOk (P.underlying ti.t) ti.k&&layOk P ti&&SV.widthL ti.zero==ti.size&&
 match P.info? ti.t with
 | some i=>i.size==ti.size&&i.bytes==ti.bytes&&ti.zero.all SV.one&&
  match i.zero with
  | some z=>zsame z.cells.toList ti.zero&&(match z with | .agg _=>ti.k.agg | _=> !ti.k.agg)
  | none=>false
 | none=>false)
def checkT(P:Program)(T:List TI):Bool:=T.all (tiOk P)
structure TInfo (P:Program) (ti:TI):Prop where
 kind:tkOk (P.underlying ti.t) ti.k=true
 lay:ti.lay.isEmpty=true∨(layOf P 12 ti.t=some (layCells ti.lay)∧P.eqGuardType P.depth ti.t=false)
 one:ti.zero.all SV.one=true
 zlen:SV.widthL ti.zero=ti.size
 zag: ∀i z,P.info? ti.t=some i→i.zero=some z→(match z with | .agg _=>ti.k.agg | _=> !ti.k.agg)=true
 ms:msOk P ti=true
 info: ∃i,P.info? ti.t=some i∧i.size=ti.size∧i.bytes=ti.bytes∧∃z,i.zero=some z∧∀ρ,SV.cellsL ρ ti.zero=z.cells.toList
theorem tiOk_info{P:Program}{ti:TI}(h:tiOk P ti=true):TInfo P ti:=by
 unfold tiOk at h;rw [Bool.and_eq_true,Bool.and_eq_true,Bool.and_eq_true,Bool.and_eq_true,beq_iff_eq]at h;obtain⟨hms,⟨⟨hk,hl⟩,hzl⟩,h⟩:=h;have hl':ti.lay.isEmpty=true∨(layOf P 12 ti.t=some (layCells ti.lay)∧P.eqGuardType P.depth ti.t=false):=by
  unfold layOk at hl;rw [Bool.or_eq_true,Bool.and_eq_true,beq_iff_eq,Bool.not_eq_true']at hl;exact hl
 split at h
 ·rename_i i hi;simp only [Bool.and_eq_true,beq_iff_eq]at h;obtain⟨⟨⟨h1,h2⟩,h4⟩,h3⟩:=h;split at h3
  ·rename_i z hz;rw [Bool.and_eq_true]at h3;exact⟨hk,hl',h4,hzl,fun i' z' hi' hz'=>by rw [hi]at hi';cases hi';rw [hz]at hz';cases hz';exact h3.2,hms,i,hi,h1,h2,z,hz,fun ρ=>zsame_cells ρ _ _ h3.1⟩
  ·cases h3
 ·cases h
theorem tlook_spec{P:Program}{T:List TI}(hT:checkT P T=true){t:Nat}{ti:TI}(h:tlook T t=some ti):ti.t=t∧TInfo P ti:=by
 unfold tlook at h;have hm:=List.mem_of_find?_eq_some h;have ht:=List.find?_some h;simp only [beq_iff_eq]at ht;exact⟨ht,tiOk_info (List.all_eq_true.1 hT ti hm)⟩
section
variable {P:Program} (w:World)
theorem TInfo.sizeOf{ti:TI}(h:TInfo P ti):(sizeOf ti.t).run P w= .ok ti.size w:=by
 obtain⟨i,hi,hs,_⟩:=h.info;simp [Go.sizeOf,typeInfo,hi,hs]
theorem TInfo.isAgg{ti:TI}(h:TInfo P ti):(isAgg ti.t).run P w= .ok ti.k.agg w:=by
 have hk:=h.kind;unfold tkOk at hk;split at hk<;>first | (cases hk;done) | skip
 all_goals (rename_i h1 h2;simp [Go.isAgg,run_underlying h1,h2,TK.agg])
theorem TInfo.zero{ti:TI}(h:TInfo P ti): ∃z,(zeroValue ti.t).run P w= .ok z w∧∀ρ,SV.cellsL ρ ti.zero=z.cells.toList:=by
 obtain⟨i,hi,_,_,z,hz,hc⟩:=h.info;exact⟨z,by simp [zeroValue,typeInfo,hi,hz],hc⟩
end
end Go.RX

namespace Go.RX
theorem flatMap_cut{α:Type}(s:Nat)(f:Nat→List α)(hf: ∀i,(f i).length=s): ∀(n i:Nat),i<n→
  (((List.range n).flatMap f).drop (i*s)).take s=f i:=by
 intro n i hi;have h1:List.range n=List.range i++(i::(List.range (n - i - 1)).map (· +(i+1))):=by
  apply List.ext_getElem?;intro j;rw [List.getElem?_append];by_cases hj:j<n
  ·rw [List.getElem?_range hj];by_cases hji:j<i
   ·rw [if_pos (by simpa using hji),List.getElem?_range hji]
   ·rw [if_neg (by simpa using hji),List.length_range];by_cases he:j=i
    ·subst he;simp
    ·obtain⟨d,rfl⟩: ∃d,j=i+1+d:=⟨j - i - 1,by omega⟩;rw [show i+1+d - i=d+1 by omega,List.getElem?_cons_succ,List.getElem?_map,List.getElem?_range (by omega)];simp;omega
  ·rw [List.getElem?_eq_none (by simp;omega),if_neg (by simp;omega),List.getElem?_eq_none (by simp;omega)]
 have hlen: ∀l:List Nat,(l.flatMap f).length=l.length*s:=by
  intro l
  induction l with
  | nil=>simp
  | cons a r ih=>rw [List.flatMap_cons,List.length_append,hf,ih,List.length_cons,Nat.add_mul];omega
 rw [h1,List.flatMap_append,List.flatMap_cons];have h2:=hlen (List.range i);rw [List.length_range]at h2;rw [List.drop_append,h2,Nat.sub_self,List.drop_of_length_le (by omega),List.drop_zero,List.nil_append];rw [List.take_append_of_le_length (by rw [hf];exact Nat.le_refl _),List.take_of_length_le (by rw [hf];exact Nat.le_refl _)]
section
variable (ρ:Env)
theorem col_length(c:Col)(i:Nat):(c.cells ρ i).length=c.w:=by
 obtain⟨ck,cw,a⟩:=c;cases ck<;>simp [Col.cells,colI,colB,colV,colP,segCells_length]
theorem row_length(cols:List Col)(i:Nat):((cols.map (Col.cells ρ)).flatMap fun c=>c i).length=colsW cols:=by
 induction cols with
 | nil=>rfl
 | cons c r ih=>simp only [List.map_cons,List.flatMap_cons,List.length_append,col_length,ih,colsW,List.sum_cons,List.map_cons]
theorem tab_cut(cols:List Col)(n i:Nat)(h:i<n):
  ((tabCells ρ n cols).drop (i*colsW cols)).take (colsW cols)=(cols.map (Col.cells ρ)).flatMap fun c=>c i:=
 flatMap_cut (colsW cols) (fun(i:Nat)=>(cols.map (Col.cells ρ)).flatMap fun(c:Nat→List Value)=>c i) (row_length ρ cols) n i h
theorem tab_length(cols:List Col)(n:Nat):(tabCells ρ n cols).length=n*colsW cols:=by
 unfold tabCells tabL;have: ∀l:List Nat,(l.flatMap fun i=>(cols.map (Col.cells ρ)).flatMap fun c=>c i).length=l.length*colsW cols:=by
  intro l
  induction l with
  | nil=>simp
  | cons a r ih=>rw [List.flatMap_cons,List.length_append,row_length,ih,List.length_cons,Nat.add_mul];omega
 rw [this,List.length_range]
theorem toNat_mul(x:Int)(w:Nat):(x*(w:Int)).toNat=x.toNat*w:=by
 rcases Int.le_total 0 x with h | h
 ·obtain⟨m,rfl⟩:=Int.eq_ofNat_of_zero_le h;rw [←Int.natCast_mul,Int.toNat_natCast,Int.toNat_natCast]
 ·have h1:x*(w:Int)≤0:=Int.mul_nonpos_of_nonpos_of_nonneg h (by omega);rw [Int.toNat_of_nonpos h1,Int.toNat_of_nonpos h];simp
theorem mkP_cells(e:E):SV.cells ρ (mkP e)=[ptrV (e.den ρ 0)]:=by
 unfold mkP;split
 ·simp only [SV.cells,E.den,ptrV_blk]
 ·split
  ·rename_i h;subst h;rfl
  ·rfl
 ·rfl
theorem mkSv_cells(e:E):SV.cells ρ (mkSv e)=[.string ⟨(sDec (e.den ρ 0)).toArray⟩]:=by
 unfold mkSv;split
 ·rfl
 ·simp only [SV.cells,E.den,srowF,strD_rowS]
theorem colElem_cells{c:Col}{i:E}{x:SV}(h:colElem c i=some x):SV.cells ρ x=c.cells ρ (i.den ρ 0).toNat:=by
 obtain⟨ck,cw,a⟩:=c;unfold colElem at h;cases ck with
 | int k=>
  simp only [Col.cells]at h ⊢;split at h
  ·rename_i hw;simp only [Option.some.injEq]at h;subst h;simp [SV.cells,colI,segCells,hw,eSel_den]
  ·simp only [Option.some.injEq]at h;subst h;simp only [SV.cells,colI];apply segCells_congr;intro j _;rw [eShift_den,eMul_den];simp only [E.den];rw [toNat_mul]
 | bool=>
  simp only [Col.cells]at h ⊢;split at h
  ·rename_i hw;simp only [Option.some.injEq]at h;subst h;simp [SV.cells,colB,hw,eSel_den,bNz_den]
  ·cases h
 | val v=>
  simp only [Col.cells]at h ⊢;split at h
  ·rename_i hw;simp only [Option.some.injEq]at h;subst h;simp [SV.cells,colV,hw]
  ·cases h
 | ptr=>
  simp only [Col.cells]at h ⊢;split at h
  ·rename_i hw;simp only [Option.some.injEq]at h;subst h;rw [mkP_cells];simp [colP,hw,eSel_den]
  ·cases h
 | nils=>
  simp only [Col.cells]at h ⊢;split at h
  ·rename_i hw;simp only [Option.some.injEq]at h;subst h;simp [SV.cells,colV,hw]
  ·cases h
 | str=>
  simp only [Col.cells]at h ⊢;split at h
  ·rename_i hw;simp only [Option.some.injEq]at h;subst h;rw [mkStr_cells,eAt2_den];simp [colV,hw]
  ·cases h
 | cv=>
  simp only [Col.cells]at h ⊢;split at h
  ·rename_i hw;simp only [Option.some.injEq]at h;subst h;simp [SV.cells,colV,hw,eSel_den]
  ·cases h
 | sv=>
  simp only [Col.cells]at h ⊢;split at h
  ·rename_i hw;simp only [Option.some.injEq]at h;subst h;rw [mkSv_cells];simp [colV,hw,eSel_den]
  ·cases h
 | ix v=>cases h
 | vls l=>
  simp only [Col.cells]at h ⊢;split at h
  ·rename_i k hk;split at h
   ·rename_i n hn;split at h
    ·rename_i hw;simp only [Option.some.injEq]at h;subst h;have hk':i.den ρ 0=(k:Int):=by
      unfold litNat at hk;split at hk
      ·cases hk;rfl
      ·cases hk
     simp [SV.cells,colV,hw,hk',hn]
    ·cases h
   ·cases h
  ·cases h
 | pt q v=>
  simp only [Col.cells]at h ⊢;split at h
  ·rename_i hw;obtain⟨hw,rfl⟩:=hw;simp only [Option.some.injEq]at h;subst h;simp [SV.cells,colV,hw]
  ·cases h
theorem colElems_cells{i:E}: ∀{cols:List Col} {es:List SV},colElems i cols=some es→
  SV.cellsL ρ es=(cols.map (Col.cells ρ)).flatMap fun c=>c (i.den ρ 0).toNat
 | [],es,h=>by simp [colElems]at h;subst h;rfl
 | c::r,es,h=>by
  unfold colElems at h;split at h
  ·rename_i x xs hx hxs;simp only [Option.some.injEq]at h;subst h;simp only [SV.cellsL,List.map_cons,List.flatMap_cons,colElem_cells ρ hx,colElems_cells hxs]
  ·cases h
theorem inRange_prop{i n:E}(h: ∀b∈inRange i n,b.prop ρ):0≤i.den ρ 0∧i.den ρ 0<n.den ρ 0:=by
 have key: ∀b:BE,b∈[bLe (.lit 0) i,bLt i n]→b.den ρ=true:=by
  intro b hb;by_cases hl:b= .lit true
  ·subst hl;rfl
  ·exact(BE.den_iff ρ b).2 (h b (by unfold inRange;exact List.mem_filter.2 ⟨hb,by simpa using hl⟩))
 have h1:=key (bLe (.lit 0) i) (by simp);have h2:=key (bLt i n) (by simp);rw [bLe_den]at h1;rw [bLt_den]at h2;exact⟨of_decide_eq_true h1,of_decide_eq_true h2⟩
end
theorem addr_add_add(a:Addr)(m n:Nat):(a.add m).add n=a.add (m+n):=by
 unfold Addr.add;by_cases hm:m=0
 ·subst hm;simp
 ·by_cases hn:n=0
  ·subst hn;simp
  ·simp [hm,hn,Nat.add_assoc]
theorem addr_add_lit(b o n:Nat):(⟨b,o,none⟩:Addr).add n=⟨b,o+n,none⟩:=by
 unfold Addr.add;split<;>simp_all
section
variable {P:Program} {w:World}
theorem run_loadAt{ti:TI}(h:TInfo P ti)(a:Addr)(xs:List Value)(hl:xs.length=ti.size)
  (hc: ∀(j:Nat) v,xs[j]? =some v→w.cell? (a.add j)=some v) (v:Value)
  (hv:(ti.k.agg=true→v= .agg xs.toArray)∧(ti.k.agg=false→xs=[v])):
  (Instr.loadAt ti.t (.pointer (some a))).run P w= .ok v w:=by
 cases ha:ti.k.agg with
 | true=>
  have h1:=run_loadCells_list (P:=P) w a xs hc;rw [hl]at h1;simp [Instr.loadAt,Instr.sureAddr,loadVar,h.isAgg w,ha,h.sizeOf w,h1,hv.1 ha]
 | false=>
  have hx:=hv.2 ha;subst hx;have:=hc 0 v rfl;simp only [Addr.add,if_true]at this;simp [Instr.loadAt,Instr.sureAddr,loadVar,h.isAgg w,ha,this]
theorem rowHP_read{b:Nat}{wr:Bool}{cs:List Value}{S:Nat→Prop}(h:(rowHP b wr cs).p w S)(c:Nat)(j:Nat)(v:Value)
  (hv:(cs.drop c)[j]? =some v):w.cell? ((⟨b,c,none⟩:Addr).add j)=some v:=by
 rw [addr_add_lit];rw [List.getElem?_drop]at hv;obtain⟨_,ty,fz,hg,_⟩:=h;rw [cell_of_row w b (c+j) _ ty fz hg];simpa using hv
theorem sli_read{md:Bool}{t s n:Nat}{v:Value}{cs:List Value}{S:Nat→Prop}(h:(sliHP md t s v n cs).p w S)(c j:Nat)(u:Value)
  (hu:(cs.drop c)[j]? =some u): ∃a m cp,v= .slice (some a) m cp∧m=n∧w.cell? ((a.add c).add j)=some u:=by
 rw [List.getElem?_drop]at hu;obtain⟨h0,_⟩:=h;cases md with
 | true=>
  simp only [if_true]at h0;have h00:=h0;obtain⟨hl,hr⟩:=h0;rcases hr with⟨_,rfl⟩ | ⟨g,o,cap,cur,rfl,hg,_⟩
  ·have:cs=[]:=List.eq_nil_of_length_eq_zero (by simpa using hl);subst this;simp at hu
  ·refine⟨⟨g,o,none⟩,n,cap,rfl,rfl,?_⟩;rw [addr_add_add];exact ownsAt_cells h00 _ _ hu
 | false=>
  simp only [Bool.false_eq_true,if_false]at h0;obtain⟨hl,a,m,c',rfl,hm,_,hnil,hc⟩:=h0;cases a with
  | none=>
   have hn:=hnil rfl;subst hn;have:cs=[]:=List.eq_nil_of_length_eq_zero (by simpa using hl);subst this;simp at hu
  | some ad=>
   refine⟨ad,m,c',rfl,hm,?_⟩;rw [addr_add_add];exact(hc ad rfl).2 _ _ hu
theorem sli_addr{md:Bool}{t s n:Nat}{v:Value}{cs:List Value}{S:Nat→Prop}(h:(sliHP md t s v n cs).p w S)(hn:0<n):
  ∃a cp,v= .slice (some a) n cp:=by
 obtain⟨h0,_⟩:=h;cases md with
 | true=>
  simp only [if_true]at h0;rcases h0.2 with⟨_,h1⟩ | ⟨g,o,cap,cur,rfl,_⟩
  ·omega
  ·exact⟨_,_,rfl⟩
 | false=>
  simp only [Bool.false_eq_true,if_false]at h0;obtain⟨_,a,m,c',rfl,hm,_,hnil,_⟩:=h0;subst hm;cases a with
  | none=>have:=hnil rfl;omega
  | some ad=>exact⟨_,_,rfl⟩
theorem sli_len{md:Bool}{t s n:Nat}{v:Value}{cs:List Value}{S:Nat→Prop}(h:(sliHP md t s v n cs).p w S):
  ∃a cp,v= .slice a n cp:=by
 obtain⟨h0,_⟩:=h;cases md with
 | true=>
  simp only [if_true]at h0;rcases h0.2 with⟨rfl,rfl⟩ | ⟨g,o,cap,cur,rfl,_⟩
  ·exact⟨_,_,rfl⟩
  ·exact⟨_,_,rfl⟩
 | false=>
  simp only [Bool.false_eq_true,if_false]at h0;obtain⟨_,a,m,c',rfl,rfl,_⟩:=h0;exact⟨_,_,rfl⟩
end
end Go.RX
