/- 'May a state be stored'. -/
import Derived.Test.YtllcdnkfbeokhaaGreatM33
import Derived.Test.YtllcdnkfbeokhaaGreatM35
open Go.IntKind renaming wrap → ae
open Go.Proofs.Tryz renaming prog → aqQ
open Int renaming toNat → ag, toNat_natCast → aqD
open List renaming append → aqk, getD_cons_zero → ah, getD_eq_getElem?_getD → aqN, getElem?_eq_none → aq3, getElem?_eq_some_iff → aqo, mem_append → aqC, mem_range → aqE, mem_singleton → aqx
open Option.some renaming injEq → aqp
namespace Go.RX.Vb
open Go Go.RX Go.Proofs Go.Vs
abbrev O_(r:Rec):List Value:=aqk (aj .u8 16 (aL r.id)) ([.int .u8 (r.peer:Int),.bool (!(bi r.out==0)),.int .u8 (r.outcome:Int),.int .u64 (r.fi:Int),.int .u64 (r.cc:Int),.int .u64 (r.ended:Int)])
theorem G_(c0 c1 c2 c3 c4 c5 c6 c7:Nat):iI [c0,c1,c2,c3,c4,c5,c6,c7]=((((((c0*256+c1)*256+c2)*256+c3)*256+c4)*256+c5)*256+c6)*256+c7:=by
 simp [iI]
theorem Hc{m:List Nat}(hm:fX m){k0 k1 k2 k3 k4 k5 k6 k7:Nat}(h:k0+8≤m.length)(e1:k1=k0+1)(e2:k2=k0+2)(e3:k3=k0+3)(e4:k4=k0+4)(e5:k5=k0+5)(e6:k6=k0+6)(e7:k7=k0+7):
  ar .cz .u64 (ar .shl .u64 (ar .cz .u64 (ar .shl .u64 (ar .cz .u64 (ar .shl .u64 (ar .cz .u64 (ar .shl .u64 (ar .cz .u64 (ar .shl .u64 (ar .cz .u64 (ar .shl .u64 (ar .cz .u64 (ar .shl .u64 (ar .cz .u64 0 (ae .u64 (aL m k0))) 8) (ae .u64 (aL m k1))) 8) (ae .u64 (aL m k2))) 8) (ae .u64 (aL m k3))) 8) (ae .u64 (aL m k4))) 8) (ae .u64 (aL m k5))) 8) (ae .u64 (aL m k6))) 8) (ae .u64 (aL m k7))=(iI ((m.drop k0).take 8):Nat):=by
 subst e1 e2 e3 e4 e5 e6 e7;have hc: ∀j,j<m.length→m.getD j 0<256:=by
  intro j hj;rw [aqN,List.getElem?_eq_getElem hj];exact hm.b _ (List.getElem_mem hj)
 have hd:(m.drop k0).take 8=[m.getD k0 0,m.getD (k0+1) 0,m.getD (k0+2) 0,m.getD (k0+3) 0,m.getD (k0+4) 0,m.getD (k0+5) 0,m.getD (k0+6) 0,m.getD (k0+7) 0]:=by
  refine List.ext_getElem? fun j=>?_
  by_cases hj:j<8
  ·rw [List.getElem?_take_of_lt hj,List.getElem?_drop,List.getElem?_eq_getElem (by omega)];have hg: ∀i,i<m.length→m.getD i 0=m[i]?.getD 0:=fun i _=>aqN ..
   match j,hj with
   | 0,_ | 1,_ | 2,_ | 3,_ | 4,_ | 5,_ | 6,_ | 7,_=>simp only [List.getElem?_cons_zero,List.getElem?_cons_succ,Nat.add_zero];rw [aqN,List.getElem?_eq_getElem (by omega)];rfl
  ·rw [aq3 (by simp;omega),aq3 (by simp;omega)]
 rw [hd,G_];unfold aL;have g0:=hc k0 (by omega);have g1:=hc (k0+1) (by omega);have g2:=hc (k0+2) (by omega);have g3:=hc (k0+3) (by omega);have g4:=hc (k0+4) (by omega);have g5:=hc (k0+5) (by omega);have g6:=hc (k0+6) (by omega);have g7:=hc (k0+7) (by omega);generalize m.getD k0 0=c0 at*;generalize m.getD (k0+1) 0=c1 at*;generalize m.getD (k0+2) 0=c2 at*;generalize m.getD (k0+3) 0=c3 at*;generalize m.getD (k0+4) 0=c4 at*;generalize m.getD (k0+5) 0=c5 at*;generalize m.getD (k0+6) 0=c6 at*;generalize m.getD (k0+7) 0=c7 at*;rw [EE g0,kD (by omega) g1,kD (by omega) g2,kD (by omega) g3,kD (by omega) g4,kD (by omega) g5,kD (by omega) g6,kD (by omega) g7]
abbrev aaK:List Value:=aqk (aj .u8 16 (fun _=>0)) ([.int .u8 0,.bool false,.int .u8 0,.int .u64 0,.int .u64 0,.int .u64 0])
def Pa(m:List Nat)(r:Value):Prop:=(∃x,mf m=some x∧r= .tuple #[.agg (O_ x).toArray,.int .i64 0])∨(mf m=none∧r= .tuple #[.agg aaK.toArray,.int .i64 9])
theorem Pb{m:List Nat}(hm:fX m){k:Nat}(h:k<m.length):ar .cz .u64 0 (ae .u64 (aL m k))=((m.getD k 0:Nat):Int):=by
 refine EE ?_;rw [aqN,List.getElem?_eq_getElem h];exact hm.b _ (List.getElem_mem h)
theorem Pc{m:List Nat}(hm:fX m){k:Nat}(h:k<m.length):m.getD k 0<256:=by
 rw [aqN,List.getElem?_eq_getElem h];exact hm.b _ (List.getElem_mem h)
set_option maxRecDepth 10000 in
theorem KR(v:V1)(m:List Nat)(hm:fX m):aq aqQ 75 [v.v] [aT false v.v m] fun r hs=>hs=[aT false v.v m]∧Pa m r:=by
 have hn:=hm.n;have bad: ∀(h: ¬(m.length=43∧m.getD 17 0≤1∧vK (uD m))),[aT false v.v m]=[aT false v.v m]∧Pa m (.tuple #[.agg aaK.toArray,.int .i64 9]):=fun h=>⟨rfl,.inr ⟨by unfold mf;rw [if_neg h],rfl⟩⟩
 refine WI _ (m.length:Int) (aL m) v ?_;unfold OQ;intro b0 b1 v1
 iterate 3 refine⟨by omega,fun _=>?_⟩
 intro v2 b2;refine⟨fun h=>bad (by omega),fun h16=>⟨by omega,fun _=>⟨by omega,fun _=>?_⟩⟩⟩;refine⟨fun h=>bad (by omega),fun h17=>⟨by omega,fun _=>⟨by omega,fun _=>⟨by omega,fun _=>⟨by omega,fun _=>⟨by omega,fun _=>?_⟩⟩⟩⟩⟩⟩;refine⟨fun h=>bad (by omega),fun h18=>⟨by omega,fun _=>⟨by omega,fun _=>⟨by omega,fun _=>⟨by omega,fun _=>?_⟩⟩⟩⟩⟩;rw [Pb hm (k:=17) (by omega)];refine⟨fun h=>bad (by omega),fun hfl=>⟨by omega,fun _=>?_⟩⟩;refine⟨fun h=>bad (by omega),fun h19=>⟨by omega,fun _=>⟨by omega,fun _=>⟨by omega,fun _=>⟨by omega,fun _=>⟨by omega,fun _=>?_⟩⟩⟩⟩⟩⟩;refine⟨fun h=>bad (by omega),fun h27=>⟨by omega,fun _=>⟨by omega,fun _=>⟨by omega,fun _=>⟨by omega,fun _=>⟨by omega,fun _=>⟨by omega,fun _=>⟨by omega,fun _=>⟨by omega,fun _=>⟨by omega,fun _=>⟨by omega,fun _=>⟨by omega,fun _=>⟨by omega,fun _=>?_⟩⟩⟩⟩⟩⟩⟩⟩⟩⟩⟩⟩⟩;refine⟨fun h=>bad (by omega),fun h35=>⟨by omega,fun _=>⟨by omega,fun _=>⟨by omega,fun _=>⟨by omega,fun _=>⟨by omega,fun _=>⟨by omega,fun _=>⟨by omega,fun _=>⟨by omega,fun _=>⟨by omega,fun _=>⟨by omega,fun _=>⟨by omega,fun _=>⟨by omega,fun _=>?_⟩⟩⟩⟩⟩⟩⟩⟩⟩⟩⟩⟩⟩;refine⟨fun h=>bad (by omega),fun h43=>⟨by omega,fun _=>⟨by omega,fun _=>⟨by omega,fun _=>⟨by omega,fun _=>⟨by omega,fun _=>⟨by omega,fun _=>⟨by omega,fun _=>⟨by omega,fun _=>⟨by omega,fun _=>⟨by omega,fun _=>⟨by omega,fun _=>⟨by omega,fun _=>?_⟩⟩⟩⟩⟩⟩⟩⟩⟩⟩⟩⟩⟩;refine⟨fun h=>bad (by omega),fun hl=>?_⟩;intro b3;have hlen:m.length=43:=by omega
 rw [Hc hm (k0:=19) (by omega) rfl rfl rfl rfl rfl rfl rfl,Hc hm (k0:=27) (by omega) rfl rfl rfl rfl rfl rfl rfl,Hc hm (k0:=35) (by omega) rfl rfl rfl rfl rfl rfl rfl,Pb hm (k:=16) (by omega),Pb hm (k:=18) (by omega),Sq (Pc hm (by omega)),Sq (Pc hm (by omega))];have oc:vK (uD m)↔(((((m.getD 16 0:Nat):Int)<8∧(1:Int)≤((m.getD 18 0:Nat):Int))∧((m.getD 18 0:Nat):Int)≤7)∧((iI ((m.drop 19).take 8):Nat):Int)≤((iI ((m.drop 35).take 8):Nat):Int))∧(((iI ((m.drop 27).take 8):Nat):Int)=0∨(((iI ((m.drop 19).take 8):Nat):Int)≤((iI ((m.drop 27).take 8):Nat):Int)∧((iI ((m.drop 27).take 8):Nat):Int)≤((iI ((m.drop 35).take 8):Nat):Int))):=by
  simp only [vK,uD];omega
 refine⟨fun h=>bad fun hh=>h (oc.1 hh.2.2),fun h=>⟨rfl,.inl ⟨uD m,?_,?_⟩⟩⟩
 ·unfold mf;rw [if_pos ⟨hlen,by omega,oc.2 (Decidable.not_not.1 h)⟩]
 ·have e1:aj .u8 16 (aL m)=aj .u8 16 (aL (uD m).id):=fq fun j hj=>by
   show((m.getD j 0:Nat):Int)=(((m.take 16).getD j 0:Nat):Int);rw [aqN,aqN,List.getElem?_take_of_lt hj]
  have e2:(((m.getD 17 0:Nat):Int)==1)=(!(bi (uD m).out==0)):=by
   rw [Cy];show _=(m.getD 17 0==1);generalize m.getD 17 0=c;rw [Bool.eq_iff_iff];simp;omega
  rw [e1,e2];rfl
open Go Go.RX Go.Proofs Go.Vs
def kL(l:List Nat):List Int:=(List.range 16).map (aL l)
theorem Xa{a b:List Nat}(ha:a.length=16)(hb:b.length=16)(h:kL a=kL b):a=b:=by
 refine List.ext_getElem (by omega) fun j h1 h2=>?_
 have:=congrArg (fun l=>l[j]?) h;simp only [kL,List.getElem?_map,List.getElem?_range (show j<16 by omega),Option.map_some,aqp]at this;rw [iF h1,iF h2]at this;omega
theorem IS{a b:List Nat}(ha:a.length=16)(hb:b.length=16)(h:aS (kL a)=aS (kL b)):a=b:=Xa ha hb (oO (by simp [kL]) h)
theorem Hd(a:List Nat):aS (kL a)≠0:=Nat.ne_of_gt (kS (by simp [kL]))
theorem KS{v:V1}{b:List Nat}(hb:fX b){i:Nat}{n lo hi:Int}(hn:n=(b.length:Int))(dy:i≤b.length)(JS:lo=(i:Int))(Yo:hi=((i+min 43 (b.length - i):Nat):Int)){R:Int→Int→Int→Int→Int→Int→Int→(Nat→Int)→Prop}
  (h1: ∀r,mf ((b.drop i).take 43)=some r→R (r.peer:Int) (bi r.out) (r.outcome:Int) (r.fi:Int) (r.cc:Int) (r.ended:Int) 0 (aL r.id)) (h2:mf ((b.drop i).take 43)=none→R 0 0 0 0 0 0 9 (fun _=>0)):
  ∃post,aq aqQ 75 [(aE 1 v.v (ag lo) (ag hi) (some (ag hi)))] [aB false 5 1 v.v (ag n) (aK (ag n) [aC .u8 1 (aL b)])] post∧
   ∀x hs,post x hs→∃x3:Int,∃x4:Int,∃x5:Int,∃x6:Int,∃x7:Int,∃x8:Int,∃x9:Int,∃A9:(Nat→Int),x= .tuple #[.agg (aqk (aj .u8 16 A9) ([.int .u8 x3,.bool (!(x4==0)),.int .u8 x5,.int .u64 x6,.int .u64 x7,.int .u64 x8])).toArray,.int .i64 x9]∧hs=[aB false 5 1 v.v (ag n) (aK (ag n) [aC .u8 1 (aL b)])]∧R x3 x4 x5 x6 x7 x8 x9 A9:=by
 subst hn JS Yo;simp only [aqD];have em:(b.drop i).take 43=(b.drop i).take (i+min 43 (b.length - i) - i):=by
  rw [List.take_eq_take_iff,List.length_drop];omega
 refine⟨fun r hs=>hs=[aT false v.v b]∧Pa ((b.drop i).take 43) r,?_,?_⟩
 ·have hm:=KR ⟨aE 1 v.v i (i+min 43 (b.length - i)) (some (i+min 43 (b.length - i))),bT ..⟩ ((b.drop i).take 43) ((hb.drop i).take 43);refine aq.post (aq.pre (aq.frame hm [aT false v.v b]) ?_) ?_
  ·exact bJ.trans (bJ.dup rfl []) (bJ.view (by omega) (by omega) (fun m h=>by cases h;omega) em _ 0 rfl)
  ·rintro r hs ⟨kT,rfl,rfl,h⟩;exact⟨_,bJ.sub (List.sublist_append_right [_] [aT false v.v b]),rfl,h⟩
 ·rintro x hs ⟨rfl,⟨r,hr,rfl⟩ | ⟨hr,rfl⟩⟩
  ·exact⟨_,_,_,_,_,_,0,_,rfl,rfl,h1 r hr⟩
  ·exact⟨0,0,0,0,0,0,9,_,rfl,rfl,h2 hr⟩
theorem Hf{m:List Nat}{r:Rec}(h:mf m=some r):r.id.length=16∧m.length=43:=by
 unfold mf at h;split at h
 ·rename_i hh;cases h;exact⟨by simp [uD];omega,hh.1⟩
 ·cases h
set_option maxHeartbeats 1000000 in
theorem KT(v:V1)(b:List Nat)(hb:fX b):aq aqQ 36 [v.v] [aT false v.v b] fun r hs=>hs=[]∧∃a e:Int,r= .tuple #[cA a,.int .i64 e]∧(e=0↔wY b=true):=by
 refine WJ _ (b.length:Int) (aL b) v ?_;unfold OR;intro b0 b1;refine⟨by omega,fun _=>⟨fun h=>⟨rfl,0,3,rfl,?_⟩,fun hlen=>?_⟩⟩
 ·have:wY b=false:=by
   unfold wY;rw [decide_eq_false (by omega)];rfl
  rw [this];decide
 intro b2 b3 b4 b5 b6 b7 b8 D9 l10 r9;have jf:wY b=(nG b.length b []).isSome:=by
  unfold wY;rw [decide_eq_true (by omega)];rfl
 refine⟨fun x=> ∃(i n:Nat) (acc:List Rec) (v2:V1) (A1 A2 A3 A4 A5 A6 A7 A8:Nat→Int),x=⟨[],[v2],[(i:Int),(acc.length:Int)],[A1,A2,A3,A4,A5,A6,A7,A8],[],[],[]⟩∧i≤b.length∧nG n (b.drop i) acc=nG b.length b []∧b.length - i≤n∧acc.length*43=i∧
  (∀l:List Nat,l.length=16→(A1 (aS (kL l))≠0↔l∈acc.map (·.id)))∧∀r∈acc,r.id.length=16,fun x=>b.length - (x.i.getD 0 0).toNat,?_,?_⟩
 ·exact⟨⟨.slice none 0 0,rfl⟩,_,_,_,fun _=>0,fun _=>0,fun _=>0,fun _=>0,fun _=>0,fun _=>0,fun _=>0,rfl,rfl,rfl,rfl,rfl,fun _ _=>rfl,fun _ _=>rfl,fun _ _=>rfl,fun _ _=>rfl,fun _ _=>rfl,fun _ _=>rfl,fun _ _=>rfl,
   0,b.length,[],_,_,_,_,_,_,_,_,_,rfl,by omega,rfl,by omega,rfl,fun l _=>by simp,by simp⟩
 rintro v2 x1 x2 A1 A2 A3 A4 A5 A6 A7 A8 ⟨i,n,acc,v2,A1,A2,A3,A4,A5,A6,A7,A8,hx,hi,SG,hn,SF,hA,afL⟩;simp only [Ext.mk.injEq,List.cons.injEq,and_true,true_and]at hx;obtain⟨rfl,⟨rfl,rfl⟩,rfl,rfl,rfl,rfl,rfl,rfl,rfl,rfl⟩:=hx;have afM:ar .ib .i64 43 ((b.length:Int) - (i:Int))=((min 43 (b.length - i):Nat):Int):=by
  have:ar .ib .i64 43 ((b.length:Int) - (i:Int))=if(b.length:Int) - (i:Int)<43 then(b.length:Int) - (i:Int)else 43:=rfl
  rw [this];split<;>omega
 rw [afM];refine⟨by omega,fun _=>⟨fun cq=>?_,fun lN=>?_⟩⟩
 ·iterate 7 refine⟨by omega,fun _=>?_⟩
  have fg:b.drop i≠[]:=by
   intro h;have:=congrArg List.length h;rw [List.length_drop,List.length_nil]at this;omega
  obtain⟨n,rfl⟩: ∃n',n=n'+1:=⟨n - 1,by omega⟩;refine KS hb rfl hi rfl (by omega) ?_ ?_
  ·intro r hr;obtain⟨SJ,afN⟩:=Hf hr;have lN:i+43≤b.length:=by
    rw [List.length_take,List.length_drop]at afN;omega
   intro IF QH;have AM:((List.range 16).map (aL r.id))=kL r.id:=rfl;rw [AM];simp only [aqD];refine⟨fun h=>⟨trivial,0,9,rfl,?_⟩,fun h=>?_⟩
   ·have Cd:r.id∈acc.map (·.id):=by
     rcases h with h | h
     ·exact absurd trivial h
     ·exact(hA r.id SJ).1 h
    have:nG b.length b []=none:=by
     rw [←SG];unfold nG;rw [if_neg fg,hr];simp only;rw [if_pos Cd]
    rw [jf,this];decide
   ·have hnm:r.id ∉ acc.map (·.id):=fun hm=>h (.inr ((hA r.id SJ).2 hm))
    have O4:nG n (b.drop (i+43)) (acc++[r])=nG b.length b []:=by
     rw [←SG]
     conv=>rhs;unfold nG
     rw [if_neg fg,hr];simp only;rw [if_neg hnm,List.drop_drop]
    intro LQ;refine⟨by omega,fun _=>⟨by omega,fun _=>fun v3=>⟨by omega,fun _=>⟨by omega,fun _=>?_⟩⟩⟩⟩;refine⟨v3,((i+43:Nat):Int),(((acc++[r]).length:Nat):Int),_,_,_,_,_,_,_,_,by simp,rfl,rfl,rfl,by simp,fun _ _=>rfl,fun _ _=>rfl,fun _ _=>rfl,fun _ _=>rfl,fun _ _=>rfl,fun _ _=>rfl,fun _ _=>rfl,
     ⟨i+43,n,acc++[r],v3,_,_,_,_,_,_,_,_,rfl,lN,O4,by omega,by simp;omega,?_,?_⟩,by simp;omega⟩
    ·intro l hl;simp only [aw];by_cases he:l=r.id
     ·subst he;simp
     ·have hc:aS (kL l)≠aS (kL r.id):=fun hc=>he (IS hl SJ hc)
      rw [if_neg hc,if_neg (Hd l),hA l hl];simp [he]
    ·intro x hx;rcases aqC.1 hx with hx | hx
     ·exact afL x hx
     ·rw [aqx.1 hx];exact SJ
  ·intro hr;intro IF QH;refine⟨fun _=>⟨rfl,0,9,rfl,?_⟩,fun h=>absurd (.inl (by decide)) h⟩;have:nG b.length b []=none:=by
    rw [←SG];unfold nG;rw [if_neg fg,hr]
   rw [jf,this];decide
 ·refine⟨rfl,(b3:Nat)+1,0,by rw [eF],?_⟩;have j4:b.drop i=[]:=List.drop_eq_nil_of_le (by omega);have:nG b.length b []=some acc:=by
   rw [←SG,j4];cases n<;>(unfold nG;rw [if_pos rfl])
  rw [jf,this];exact⟨fun _=>rfl,fun _=>rfl⟩
open Go Go.RX Go.Proofs Go.Vs
set_option maxHeartbeats 1000000
theorem KU{v:V1}(s:List (List Nat)){n m:Int}(hl:s.length<256^4)(hn:n=(s.length:Int))(hm:m=256){R:Int→Prop}(h: ∀a:Int,R a):
  ∃post,aq aqQ 70 [.int .i64 m,v.v] [aB false 36 16 v.v (ag n) (aK (ag n) [aC .u8 16 (dV (fun x=>x) s)])] post∧
   ∀x hs,post x hs→∃y:Int,x=(cA y)∧hs=[aB false 36 16 v.v (ag n) (aK (ag n) [aC .u8 16 (dV (fun x=>x) s)])]∧R y:=by
 subst hn hm;refine⟨fun r hs=>hs=[aB false 36 16 v.v (ag (s.length:Int)) (aK (ag (s.length:Int)) [aC .u8 16 (dV (fun x=>x) s)])]∧∃a:Int,r=cA a,?_,?_⟩
 ·refine Sy _ (s.length:Int) (dV (fun x=>x) s) (fun _=>0) v ?_;unfold IN;intro b0;refine⟨by omega,fun _=>?_⟩;refine⟨fun x=> ∃(i:Nat) (z:Int) (v2:V1) (A2:Nat→Int),x=⟨[],[v2],[(i:Int),z],[A2],[],[],[]⟩∧i≤s.length∧0≤z∧z≤256,fun x=>s.length - (x.i.getD 0 0).toNat,?_,?_⟩
  ·exact⟨⟨.slice none 0 0,rfl⟩,_,_,fun _=>0,rfl,rfl,rfl,rfl,fun _ _=>rfl,0,0,_,_,rfl,by omega,by omega,by omega⟩
  rintro v2 x1 x2 _ ⟨i,z,v2,A2,hx,hi,h0,h1⟩;simp only [Ext.mk.injEq,List.cons.injEq,and_true,true_and]at hx;obtain⟨rfl,⟨rfl,rfl⟩,rfl⟩:=hx;refine⟨fun cq=>?_,fun lN=>⟨rfl,(b0:Nat)+1,by rw [eF]⟩⟩;refine⟨by omega,fun _=>?_⟩;intro b1 b2 b3 b4 b5;refine⟨by omega,fun _=>?_⟩;refine⟨fun e=>0≤e.i.getD 0 0,fun e=>(x2 - e.i.getD 0 0).toNat,⟨0,rfl,Int.le_refl _⟩,?_⟩;intro x3 h3;simp only [ah]at h3;refine⟨fun afO=>⟨by omega,fun _=>⟨fun _=>⟨by omega,fun _=>⟨by omega,fun _=>⟨by omega,fun _=>fun v3=>⟨v3,((i+1:Nat):Int),x2,_,by simp,rfl,rfl,rfl,fun _ _=>rfl,⟨i+1,x2,v3,_,rfl,by omega,by omega,by omega⟩,by simp;omega⟩⟩⟩⟩,fun _=>⟨by omega,fun _=>⟨by omega,fun _=>⟨_,rfl,?_,?_⟩⟩⟩⟩⟩,fun afP=>?_⟩
  ·simp only [ah];omega
  ·simp only [ah];omega
  ·intro b6;refine⟨by omega,fun _=>⟨by omega,fun _=>fun v3=>⟨by omega,fun _=>⟨by omega,fun _=>⟨by omega,fun _=>⟨fun Zc=>⟨by omega,fun _=>⟨by omega,fun _=>⟨fun hz=>absurd hz (by omega),fun _=>⟨by omega,fun _=>⟨by omega,fun _=>⟨by omega,fun _=>⟨by omega,fun _=>⟨by omega,fun _=>⟨by omega,fun _=>⟨by omega,fun _=>⟨by omega,fun _=>⟨by omega,fun _=>fun v4=>⟨v4,((i+1:Nat):Int),(x2+1) - ((x2+1) - 256),_,by simp,rfl,rfl,rfl,fun _ _=>rfl,⟨i+1,(x2+1) - ((x2+1) - 256),v4,_,rfl,by omega,by omega,by omega⟩,by simp;omega⟩⟩⟩⟩⟩⟩⟩⟩⟩⟩⟩⟩⟩,fun FX=>⟨by omega,fun _=>⟨by omega,fun _=>⟨by omega,fun _=>fun v4=>⟨v4,((i+1:Nat):Int),x2+1,_,by simp,rfl,rfl,rfl,fun _ _=>rfl,⟨i+1,x2+1,v4,_,rfl,by omega,by omega,by omega⟩,by simp;omega⟩⟩⟩⟩⟩⟩⟩⟩⟩⟩
 ·rintro x hs ⟨rfl,a,rfl⟩;exact⟨a,rfl,rfl,h a⟩
theorem KV{v:V1}(s:List jW){n m:Int}(hl:s.length<256^4)(hn:n=(s.length:Int))(hm:m=4){R:Int→Prop}(h: ∀a:Int,R a):
  ∃post,aq aqQ 72 [.int .i64 m,v.v] [aB false 26 2 v.v (ag n) (aK (ag n) [aC .u8 1 (cu jW.a s),aC .u8 1 (cu jW.d s)])] post∧
   ∀x hs,post x hs→∃y:Int,x=(cA y)∧hs=[aB false 26 2 v.v (ag n) (aK (ag n) [aC .u8 1 (cu jW.a s),aC .u8 1 (cu jW.d s)])]∧R y:=by
 subst hn hm;refine⟨fun r hs=>hs=[aB false 26 2 v.v (ag (s.length:Int)) (aK (ag (s.length:Int)) [aC .u8 1 (cu jW.a s),aC .u8 1 (cu jW.d s)])]∧∃a:Int,r=cA a,?_,?_⟩
 ·refine Sz _ (s.length:Int) (cu jW.a s) (cu jW.d s) v ?_;unfold IP;intro b0;refine⟨by omega,fun _=>?_⟩;refine⟨fun x=> ∃(i:Nat) (z:Int) (v2:V1) (A2 A3:Nat→Int),x=⟨[],[v2],[(i:Int),z],[A2,A3],[],[],[]⟩∧i≤s.length∧0≤z∧z≤4,fun x=>s.length - (x.i.getD 0 0).toNat,?_,?_⟩
  ·exact⟨⟨.slice none 0 0,rfl⟩,_,_,fun _=>0,fun _=>0,rfl,rfl,rfl,rfl,fun _ _=>rfl,fun _ _=>rfl,0,0,_,_,_,rfl,by omega,by omega,by omega⟩
  rintro v2 x1 x2 _ _ ⟨i,z,v2,A2,A3,hx,hi,h0,h1⟩;simp only [Ext.mk.injEq,List.cons.injEq,and_true,true_and]at hx;obtain⟨rfl,⟨rfl,rfl⟩,rfl,rfl⟩:=hx;refine⟨fun cq=>?_,fun lN=>⟨rfl,(b0:Nat)+1,by rw [eF]⟩⟩;refine⟨by omega,fun _=>?_⟩;intro b1 b2 b3 b4 b5;refine⟨by omega,fun _=>?_⟩;refine⟨fun e=>0≤e.i.getD 0 0,fun e=>(x2 - e.i.getD 0 0).toNat,⟨0,rfl,Int.le_refl _⟩,?_⟩;intro x3 h3;simp only [ah]at h3;refine⟨fun afO=>⟨by omega,fun _=>⟨fun _=>⟨by omega,fun _=>⟨by omega,fun _=>⟨by omega,fun _=>fun v3=>⟨v3,((i+1:Nat):Int),x2,_,_,by simp,rfl,rfl,rfl,fun _ _=>rfl,fun _ _=>rfl,⟨i+1,x2,v3,_,_,rfl,by omega,by omega,by omega⟩,by simp;omega⟩⟩⟩⟩,fun _=>⟨by omega,fun _=>⟨by omega,fun _=>⟨_,rfl,?_,?_⟩⟩⟩⟩⟩,fun afP=>?_⟩
  ·simp only [ah];omega
  ·simp only [ah];omega
  ·intro b6;refine⟨by omega,fun _=>⟨by omega,fun _=>fun v3=>⟨by omega,fun _=>⟨by omega,fun _=>⟨by omega,fun _=>⟨fun Zc=>⟨by omega,fun _=>⟨by omega,fun _=>⟨fun hz=>absurd hz (by omega),fun _=>⟨by omega,fun _=>⟨by omega,fun _=>⟨by omega,fun _=>⟨by omega,fun _=>⟨by omega,fun _=>⟨by omega,fun _=>⟨by omega,fun _=>⟨by omega,fun _=>⟨by omega,fun _=>fun v4=>⟨v4,((i+1:Nat):Int),(x2+1) - ((x2+1) - 4),_,_,by simp,rfl,rfl,rfl,fun _ _=>rfl,fun _ _=>rfl,⟨i+1,(x2+1) - ((x2+1) - 4),v4,_,_,rfl,by omega,by omega,by omega⟩,by simp;omega⟩⟩⟩⟩⟩⟩⟩⟩⟩⟩⟩⟩⟩,fun FX=>⟨by omega,fun _=>⟨by omega,fun _=>⟨by omega,fun _=>fun v4=>⟨v4,((i+1:Nat):Int),x2+1,_,_,by simp,rfl,rfl,rfl,fun _ _=>rfl,fun _ _=>rfl,⟨i+1,x2+1,v4,_,_,rfl,by omega,by omega,by omega⟩,by simp;omega⟩⟩⟩⟩⟩⟩⟩⟩⟩⟩
 ·rintro x hs ⟨rfl,a,rfl⟩;exact⟨a,rfl,rfl,h a⟩
theorem Pd{v:V1}{n:Int}{A:Nat→Int}{R:V1→Prop}(h0:0≤n)(h1:n≤256^4)(h: ∀o:V1,R o):
  ∃post,aq aqQ 117 [v.v] [aB false 5 1 v.v (ag n) (aK (ag n) [aC .u8 1 A])] post∧
   ∀x hs,post x hs→∃v2:V1,x=v2.v∧hs=[aB false 5 1 v.v (ag n) (aK (ag n) [aC .u8 1 A])]∧R v2:=by
 refine⟨fun r hs=> ∃o:V1,r=o.v∧hs=[aB false 5 1 v.v (ag n) (aK (ag n) [aC .u8 1 A])],?_,?_⟩
 ·refine WG _ n A v ?_;unfold OO;exact⟨fun _=>⟨⟨.slice none 0 0,rfl⟩,rfl,rfl⟩,fun _=>fun v1=>⟨h0,fun _=>⟨h0,fun _=>⟨by omega,fun _=>fun v2=>⟨v2,rfl,rfl⟩⟩⟩⟩⟩
 ·rintro x hs ⟨o,rfl,rfl⟩;exact⟨o,rfl,rfl,h o⟩
theorem zu(a:Nat)(m:List Nat)(dP:Int):qO a m dP=true↔a<8∧1≤m.length∧m.length≤4∧ -1≤dP∧dP<(m.length:Int)∧∀x∈m,1≤x∧x≤4:=by
 simp [qO,and_assoc]
theorem Pe{v:V1}(m:List Nat){n a dP:Int}{acc:Nat}(hm:m.length<256^4)(ha:a=(acc:Int))(hn:n=(m.length:Int)){R:Int→Int→Prop}(h: ∀y e:Int,(e=0↔qO acc m dP=true)→R y e):
  ∃post,aq aqQ 71 [.int .u8 a,v.v,.int .i64 dP] [aB false 5 1 v.v (ag n) (aK (ag n) [aC .u8 1 (aL m)])] post∧
   ∀x hs,post x hs→∃y1:Int,∃y2:Int,x= .tuple #[(cA y1),.int .i64 y2]∧hs=[aB false 5 1 v.v (ag n) (aK (ag n) [aC .u8 1 (aL m)])]∧R y1 y2:=by
 subst ha hn;refine⟨fun r hs=>hs=[aB false 5 1 v.v (ag (m.length:Int)) (aK (ag (m.length:Int)) [aC .u8 1 (aL m)])]∧∃y e:Int,r= .tuple #[cA y,.int .i64 e]∧(e=0↔qO acc m dP=true),?_,?_⟩
 ·have y5:=WE (fun r hs=>hs=[]∧∃y e:Int,r= .tuple #[cA y,.int .i64 e]∧(e=0↔qO acc m dP=true)) (acc:Int) dP (m.length:Int) (aL m) v (by
   have no: ∀(_: ¬(acc<8∧1≤m.length∧m.length≤4∧ -1≤dP∧dP<(m.length:Int)∧∀x∈m,1≤x∧x≤4)),([]:List HP)=[]∧∃y e:Int,Value.tuple #[.pointer none,.int .i64 2]= .tuple #[cA y,.int .i64 e]∧(e=0↔qO acc m dP=true):=
    fun h=>⟨rfl,0,2,rfl,by rw [zu];exact⟨fun h2=>by omega,fun h2=>absurd h2 h⟩⟩
   unfold OM;refine⟨by omega,fun _=>⟨fun hb=>no (by omega),fun hb=>?_⟩⟩;intro b0;refine⟨fun x=> ∃(i:Nat) (v2:V1) (A:Nat→Int),x=⟨[],[v2],[(i:Int),(i:Int)],[A],[],[],[]⟩∧i≤m.length,fun x=>m.length - (x.i.getD 0 0).toNat,?_,?_⟩
   ·exact⟨⟨.slice none 0 0,rfl⟩,_,_,fun _=>0,rfl,rfl,rfl,rfl,fun _ _=>rfl,0,_,_,rfl,by omega⟩
   rintro v2 x3 x4 A1 ⟨i,v2,A1,hx,hi⟩;simp only [Ext.mk.injEq,List.cons.injEq,and_true,true_and]at hx;obtain⟨rfl,⟨rfl,rfl⟩,rfl⟩:=hx;refine⟨fun cq=>?_,fun lN=>?_⟩
   ·intro b1;exact⟨by omega,fun _=>⟨by omega,fun _=>fun v3=>⟨by omega,fun _=>⟨by omega,fun _=>⟨v3,((i+1:Nat):Int),((i+1:Nat):Int),_,by simp,rfl,rfl,by simp,fun _ _=>rfl,⟨i+1,v3,_,rfl,by omega⟩,by simp;omega⟩⟩⟩⟩⟩
   ·refine⟨.inr (by omega),fun _=>⟨fun DS=>no (by omega),fun DS=>⟨by omega,fun _=>?_⟩⟩⟩;refine⟨fun x=> ∃j:Nat,x=⟨[],[],[(j:Int)],[],[],[],[]⟩∧j≤m.length∧∀x∈m.take j,1≤x∧x≤4,fun x=>m.length - (x.i.getD 0 0).toNat,⟨0,rfl,0,rfl,by omega,by simp⟩,?_⟩;rintro x5 ⟨j,hx,hj,oH⟩;simp only [Ext.mk.injEq,List.cons.injEq,and_true,true_and]at hx;subst hx;refine⟨fun cq=>?_,fun lN=>?_⟩
    ·have lO:j<m.length:=by omega
     simp only [aqD];rw [iF lO];refine⟨by omega,fun _=>⟨fun Yp=>⟨trivial,(no fun hh=>?_).2⟩,fun Yp=>⟨by omega,fun _=>⟨by omega,fun _=>⟨((j+1:Nat):Int),by simp,⟨j+1,rfl,by omega,?_⟩,by simp;omega⟩⟩⟩⟩⟩
     ·have:=hh.2.2.2.2.2 _ (List.getElem_mem lO);omega
     ·rw [jd _ _ lO];intro x hx;rcases aqC.1 hx with hx | hx
      ·exact oH x hx
      ·rw [aqx.1 hx];omega
    ·refine Pd (by omega) (by omega) fun v3=>?_
     refine⟨rfl,(b0:Nat)+1,0,by rw [eF],?_⟩;rw [zu];refine⟨fun _=>?_,fun _=>rfl⟩;have:j=m.length:=by omega
     subst this;rw [List.take_length]at oH;exact⟨by omega,by omega,by omega,by omega,by omega,oH⟩)
  refine(aq.pre (aq.frame y5 [aT false v.v m]) (bJ.dup rfl [])).post ?_;rintro r hs ⟨kT,rfl,rfl,h⟩;exact⟨_,bJ.refl _,rfl,h⟩
 ·rintro x hs ⟨rfl,y,e,rfl,h'⟩;exact⟨y,e,rfl,rfl,h y e h'⟩
abbrev EP(c:Vs.Call)(dP:Int)(v0 v1 v2:Value):List Value:= .int .u8 (c.me.a:Int)::(.int .u8 (c.me.d:Int)::(aqk (aj .u8 8 (aL c.d_)) (v0::(.int .u8 (c.state:Int)::(aqk (aj .u8 16 (aL c.id)) (.bool (!(bi c.out==0))::(.int .u8 (c.aX:Int)::(.int .u8 (c.peer.a:Int)::(.int .u8 (c.peer.d:Int)::(aqk (aj .u8 32 (aL c.own)) (aqk (aj .u8 32 (aL c.ef)) (aqk (aj .u8 32 (aL c.jg)) ([v1,.int .i64 dP,v2,.int .u64 (c.fi:Int),.int .u64 (c.cc:Int),.int .u64 (c.since:Int),.int .u64 (c.heard:Int),.int .u64 (c.oa:Int),.int .u32 (c.jh:Int)])))))))))))))
theorem KW(c:Vs.Call)(dP:Int)(v0 v1 v2:V1)(h0:c.dead.length<256^4)(h1:c.marks.length<256^4)(h2:c.early.length<256^4):
  aq aqQ 35 [.agg (EP c dP v0.v v1.v v2.v).toArray] [By false v0.v c.dead,aT false v1.v c.marks,Bz false v2.v c.early] fun r hs=>hs=[]∧∃a e:Int,r= .tuple #[cA a,.int .i64 e]∧(e=0↔vL c dP=true):=by
 refine WH _ (c.me.a:Int) (c.me.d:Int) (c.state:Int) (bi c.out) (c.aX:Int) (c.peer.a:Int) (c.peer.d:Int) dP (c.fi:Int) (c.cc:Int) (c.since:Int) (c.heard:Int) (c.oa:Int) (c.jh:Int) (c.dead.length:Int) (c.marks.length:Int) (c.early.length:Int) (aL c.d_) (aL c.id) (aL c.own) (aL c.ef) (aL c.jg) (dV (fun x=>x) c.dead) (aL c.marks) (cu jW.a c.early) (cu jW.d c.early) v0 v1 v2 ?_;unfold OP;have hi:vL c dP=true↔c.dead.length≤256∧c.state≤4∧(c.state=1→qO c.aX c.marks dP=true∧c.early.length≤4):=by
  simp [vL,and_assoc];intro _ _;by_cases h:c.state=1<;>simp [h]
 intro b0 b1 b2 b3 b4;refine KU c.dead h0 rfl rfl fun y=>?_
 refine⟨by omega,fun _=>⟨fun hb=>⟨rfl,0,2,rfl,by rw [hi];omega⟩,fun hb=>⟨fun hs=>?_,fun hs=>⟨rfl,(b4:Nat)+1,0,by rw [eF],by rw [hi];omega⟩⟩⟩⟩;refine Pe c.marks h1 rfl rfl fun y e he=>?_
 refine⟨.inr (by omega),fun _=>⟨fun DS=>⟨rfl,0,2,rfl,?_⟩,fun DS=>?_⟩⟩
 ·rw [hi,←he];omega
 ·refine KV c.early h2 rfl rfl fun y=>?_
  refine⟨rfl,(b4:Nat)+1,0,by rw [eF],?_⟩;rw [hi,←he];omega
end Go.RX.Vb

namespace Go.RX
theorem bc.Ml{t s n i c m:Nat}{v:Value}{cs:List Value}(hi:i<n)(hc:c+m≤s):bc [aB false t s v n cs] (aB false 5 1 (yr v (i*s+c) m) m ((cs.drop (i*s+c)).take m)):=by
 refine⟨rfl,fun w S hS=>?_⟩;obtain⟨⟨h0,h1⟩,hb⟩:=hS.at_ 0 _ rfl;simp only [Bool.false_eq_true,if_false]at h0;obtain⟨hlen,a,k,cp,rfl,hk,al0,j4,j6⟩:=h0;subst hk;cases a with
 | none=>have:=j4 rfl;omega
 | some ad=>
  obtain⟨SK,mC⟩:=j6 ad rfl;have SK:=SK (by omega);have hle:i*s+c+m≤cs.length:=by
   have:(i+1)*s≤k*s:=Nat.mul_le_mul_right s hi;rw [Nat.succ_mul]at this;omega
  refine⟨fun b=>0<m∧S 0 b,⟨⟨by simp only [List.length_take,List.length_drop];omega,some (ad.add (i*s+c)),m,m,rfl,rfl,Nat.le_refl _,fun h=>(by cases h),?_⟩,?_⟩,fun b FU=>⟨0,by simp,FU.2⟩⟩
  ·intro ad' he;cases he;refine⟨fun _=>?_,fun j u hj=>?_⟩
   ·cases ad with | mk bb oo sp=>simp only at SK;subst SK;rw [fx]
   ·have hjm:j<m:=by
     have:=(aqo.1 hj).1;rw [List.length_take]at this;omega
    rw [List.getElem?_take_of_lt hjm,List.getElem?_drop]at hj;rw [dv];exact mC _ u hj
  ·intro b;have:=h1 b;cases ad with | mk bb oo sp=>
   simp only at SK;subst SK;simp only [yr];rw [fx];simp only [Value.ownBlock]at this ⊢;constructor
   ·rintro ⟨h,h'⟩;exact⟨((this.1 h').1),.inr h⟩
   ·rintro ⟨h,h'⟩;rcases h' with h' | h'
    ·cases h'
    ·exact⟨h',this.2 ⟨h,.inr (by omega)⟩⟩
end Go.RX
namespace Go.RX.Vb
open Go Go.RX Go.Proofs Go.Vs
theorem ER: ∀(i:Nat) (a b:List Nat),i≤a.length→i≤b.length→a.take i=b.take i→sq a b=sq (a.drop i) (b.drop i)
 | 0,_,_,_,_,_=>rfl
 | i+1,[],_,h,_,_=>absurd h (by simp)
 | i+1,_::_,[],_,h,_=>absurd h (by simp)
 | i+1,x::a,y::b,h1,h2,h=>by
  simp only [List.take_succ_cons,List.cons.injEq]at h;obtain⟨rfl,h⟩:=h;simp only [List.drop_succ_cons];rw [←ER i a b (by simpa using h1) (by simpa using h2) h];simp [sq]
theorem KX(v0 v1:V1)(a b:List Nat)(ha:a.length≤140737488355328):aq aqQ 37 [v0.v,v1.v] [aT false v0.v a,aT false v1.v b] fun r hs=>hs=[aT false v0.v a,aT false v1.v b]∧∃c:Int,r= .int .i64 c∧(0≤c↔sq a b=false):=by
 refine WC _ (a.length:Int) (b.length:Int) (aL a) (aL b) v0 v1 ?_;unfold OK;dsimp only [bf];refine⟨by omega,fun _=>⟨fun x=> ∃i:Nat,x=⟨[],[],[(i:Int)],[],[],[],[]⟩∧i≤a.length∧i≤b.length∧a.take i=b.take i,fun x=>a.length - (x.i.getD 0 0).toNat,⟨0,rfl,0,rfl,by omega,by omega,rfl⟩,?_⟩⟩;rintro x2 ⟨i,hx,h1,h2,h3⟩;simp only [Ext.mk.injEq,List.cons.injEq,and_true,true_and]at hx;subst hx;have hd:=ER i a b h1 h2 h3;refine⟨fun cq=>⟨by omega,fun _=>⟨by omega,fun _=>⟨fun lN=>⟨rfl,1,rfl,?_⟩,fun al2=>⟨by omega,fun _=>?_⟩⟩⟩⟩,fun lN=>⟨by omega,fun _=>⟨by omega,fun _=>⟨fun h=>⟨rfl, -1,rfl,?_⟩,fun h=>⟨rfl,0,rfl,?_⟩⟩⟩⟩⟩
 ·have hi:i<a.length:=by omega
  rw [hd,List.drop_eq_nil_of_le (show b.length≤i by omega),List.drop_eq_getElem_cons hi];simp [sq]
 ·have hi:i<a.length:=by omega
  have hj:i<b.length:=by omega
  simp only [aqD];rw [iF hi,iF hj];rw [List.drop_eq_getElem_cons hi,List.drop_eq_getElem_cons hj]at hd;refine⟨fun h=>⟨trivial, -1,rfl,?_⟩,fun h=>⟨fun h'=>⟨trivial,1,rfl,?_⟩,fun h'=>⟨by omega,fun _=>⟨by omega,fun _=>⟨((i+1:Nat):Int),by simp,⟨i+1,rfl,by omega,by omega,?_⟩,by simp;omega⟩⟩⟩⟩⟩
  ·rw [hd];simp only [sq];rw [if_pos (by omega)];decide
  ·rw [hd];simp only [sq];rw [if_neg (by omega),if_pos (by omega)];decide
  ·rw [jd _ _ hi,jd _ _ hj,h3];congr 2;omega
 ·have hi:i=a.length:=by omega
  rw [hd,List.drop_eq_nil_of_le (by omega),List.drop_eq_getElem_cons (show i<b.length by omega)];simp [sq]
 ·rw [hd,List.drop_eq_nil_of_le (show a.length≤i by omega),List.drop_eq_nil_of_le (show b.length≤i by omega)];simp [sq]
end Go.RX.Vb

namespace Go.RX
theorem bc.mem{L:List HP}{h:HP}(hm:h∈L)(hw:h.wr=false):bc L h:=by
 obtain⟨a,b,rfl⟩:=List.append_of_mem hm;have:=bc.mid (A:=a) (C:=b) (bc.self hw)
 rwa [List.append_assoc]at this
theorem bJ.Uj{L:List HP}(hw: ∀h∈L,h.wr=false):bJ L (L++L):=by
 have:=bJ.views (A:=[]) (B:=L) (L:=L++L) fun h hh=>by
  rcases aqC.1 hh with hh | hh<;>exact bc.mem hh (hw h hh)
 simpa using this
theorem aq.looks{P:Program}{f:Nat}{args:List Value}{L:List HP}{Q:Value→Prop}(hm:aq P f args L fun r hs=>hs=[]∧Q r)(hw: ∀h∈L,h.wr=false):aq P f args L fun r hs=>hs=L∧Q r:=by
 refine(aq.pre (aq.frame hm L) (bJ.Uj hw)).post ?_;rintro r hs ⟨kT,rfl,rfl,h⟩;exact⟨_,bJ.refl _,rfl,h⟩
theorem nH{P:Program}{f:Nat}{args:List Value}{L B:List HP}{Q:Value→Prop}(hm:aq P f args L fun r hs=>hs=[]∧Q r)(hL: ∀h∈L,bc B h):
  aq P f args B fun r hs=>hs=B∧Q r:=by
 have h:aq P f args ([]++L) fun r hs=> ∃nw,(Q r∧nw=[])∧hs=[]++nw:=by
  refine aq.post hm ?_;rintro r hs ⟨rfl,hr⟩;exact⟨[],bJ.refl _,[],⟨hr,rfl⟩,rfl⟩
 refine aq.post (aq.TX h (by simp) ?_ hL) ?_
 ·rintro v nw ⟨_,rfl⟩ h hh;cases hh
 ·rintro r hs ⟨nw,⟨hr,rfl⟩,rfl⟩;exact⟨B,by simpa using bJ.refl B,rfl,hr⟩
end Go.RX
namespace Go.RX.Vb
open Go Go.RX Go.Proofs Go.Vs
theorem IT: ∀a:List Nat,sq a a=false
 | []=>rfl
 | x::a=>by simp [sq,IT a]
theorem BC: ∀(a b c:List Nat),sq a b=true→sq b c=true→sq a c=true
 | [],[],_,h,_=>by simp [sq]at h
 | [],_::_,[],_,h=>by simp [sq]at h
 | [],_::_,_::_,_,_=>rfl
 | _::_,[],_,h,_=>by simp [sq]at h
 | _::_,_::_,[],_,h=>by simp [sq]at h
 | x::a,y::b,z::c,h1,h2=>by
  simp only [sq]at h1 h2 ⊢;by_cases e1:x<y
  ·by_cases e2:y<z
   ·rw [if_pos (by omega)]
   ·by_cases e3:z<y
    ·rw [if_neg e2,if_pos e3]at h2;cases h2
    ·rw [if_pos (by omega)]
  ·by_cases e1':y<x
   ·rw [if_neg e1,if_pos e1']at h1;cases h1
   ·rw [if_neg e1,if_neg e1']at h1;by_cases e2:y<z
    ·rw [if_pos (by omega)]
    ·by_cases e3:z<y
     ·rw [if_neg e2,if_pos e3]at h2;cases h2
     ·rw [if_neg e2,if_neg e3]at h2;rw [if_neg (by omega),if_neg (by omega)];exact BC a b c h1 h2
abbrev SL(b:Nat)(A B:Nat→Int):HP:=nQ b [.u8,.u8,.u8,.u8,.u8,.u8,.u8,.u8,.u8,.u8,.u8,.u8,.u8,.u8,.u8,.u8] true false ([.pointer none]) A (M5 [tH 1 B])
theorem ES{b0 b1:Nat}{x0 x1 x2 x3 x4 x5 x6:Int}{A0 A1 A2 A B:Nat→Int}{out:Bool}{q:Int}(hq:q=bi out)(id:List Nat)(hid: ∀j,j<16→A2 j=aL id j)(h0:A (aS (kL id))=0)(h1:B (aS (kL id))=0)(h2:A 0<8){R:Nat→Int→Int→Int→(Nat→Int)→(Nat→Int)→Bool→Prop}
  (h: ∀(b:Nat) (y1 y2:Int),R b y1 y2 x6 (aw (aw A 0 (A 0+1)) (aS (kL id)) 1) (aw B (aS (kL id)) ((b:Nat)+1)) out):
  ∃post,aq aqQ 38 [.pointer (some ⟨b0,0,none⟩),.agg (aqk (aj .u8 16 A2) ([])).toArray,.int .u8 x6,.bool (!(q==0))] [ak b0 true (.int .u8 x0::(.int .u8 x1::(.nilIface::(aqk (aj .u8 32 A0) (.int .u64 x2::((cA x3)::((cA x4)::((cA x5)::(.map (some b1)::(aqk (aj .u8 16 A1) ([]))))))))))),SL b1 A B] post∧
   ∀x hs,post x hs→∃b4:Nat,∃y1:Int,∃y2:Int,∃y3:Int,∃lJ:(Nat→Int),∃nF:(Nat→Int),∃q0:Bool,x= .tuple #[.pointer (some ⟨b4,0,none⟩),.bool true]∧hs=[ak b0 true (.int .u8 x0::(.int .u8 x1::(.nilIface::(aqk (aj .u8 32 A0) (.int .u64 x2::((cA x3)::((cA x4)::((cA x5)::(.map (some b1)::(aqk (aj .u8 16 A1) ([]))))))))))),SL b1 lJ nF,ak b4 true ([(cA y1),(cA y2),.bool false,.bool q0,.int .u8 y3,.int .u64 0])]∧R b4 y1 y2 y3 lJ nF q0:=by
 subst hq;have hk:(List.range 16).map A2=kL id:=List.map_congr_left fun j hj=>hid j (aqE.1 hj)
 refine⟨fun x hs=> ∃(b:Nat) (y1 y2:Int),x= .tuple #[.pointer (some ⟨b,0,none⟩),.bool true]∧hs=[ak b0 true (.int .u8 x0::(.int .u8 x1::(.nilIface::(aqk (aj .u8 32 A0) (.int .u64 x2::((cA x3)::((cA x4)::((cA x5)::(.map (some b1)::(aqk (aj .u8 16 A1) ([]))))))))))),SL b1 (aw (aw A 0 (A 0+1)) (aS (kL id)) 1) (aw B (aS (kL id)) ((b:Nat)+1)),ak b true ([(cA y1),(cA y2),.bool false,.bool out,.int .u8 x6,.int .u64 0])],?_,?_⟩
 ·refine aq.post (WA (fun x hs=> ∃(b:Nat) (y1 y2:Int),x= .tuple #[.pointer (some ⟨b,0,none⟩),.bool true]∧List.Sublist [ak b0 true (.int .u8 x0::(.int .u8 x1::(.nilIface::(aqk (aj .u8 32 A0) (.int .u64 x2::((cA x3)::((cA x4)::((cA x5)::(.map (some b1)::(aqk (aj .u8 16 A1) ([]))))))))))),SL b1 (aw (aw A 0 (A 0+1)) (aS (kL id)) 1) (aw B (aS (kL id)) ((b:Nat)+1)),ak b true ([(cA y1),(cA y2),.bool false,.bool out,.int .u8 x6,.int .u64 0])] hs) x0 x1 x2 x3 x4 x5 x6 (bi out) A0 A1 A2 A B b0 b1 ?_) ?_
  ·unfold OI;rw [hk];simp only [aqD];intro b2;refine⟨fun hb=>absurd h1 hb,fun _=>⟨fun hb=>absurd h2 (by omega),fun _=>?_⟩⟩;intro b3 b4 b5 b6 b7 b8 b9 F3 IF QH;refine⟨b6,(b5:Nat)+1,(QH:Nat)+1,rfl,?_⟩;rw [h0,Cy,eF,eF,show A 0+1 - ar .ib .i64 0 1=A 0+1 from Int.sub_zero _];exact .cons_cons _ (.cons_cons _ (.cons _ (.cons _ (.cons _ (.cons _ (.cons_cons _ .slnil))))))
  ·rintro x hs ⟨b,y1,y2,rfl,kT⟩;exact⟨_,bJ.sub kT,b,y1,y2,rfl,rfl⟩
 ·rintro x hs ⟨b,y1,y2,rfl,rfl⟩;exact⟨b,y1,y2,_,_,_,_,rfl,rfl,h b y1 y2⟩
end Go.RX.Vb
