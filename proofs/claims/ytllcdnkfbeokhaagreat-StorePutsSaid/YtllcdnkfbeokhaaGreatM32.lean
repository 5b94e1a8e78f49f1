/- 'May a state be stored'. -/
import Derived.Test.YtllcdnkfbeokhaaGreatM31
open Go.IntKind renaming wrap -> ae
open Go.Proofs.Tryz renaming prog -> ax8
open Int renaming toNat -> ag, toNat_natCast -> ax3
open List renaming append -> axQ, append_assoc -> ayl, getD_cons_zero -> ah, getElem?_eq_some_iff -> axT, length_nil -> aya, mem_append -> ax_, mem_range -> ayc, mem_singleton -> ax2
open Option.some renaming injEq -> axU
namespace Go.RX.Vb
open Go Go.RX Go.Proofs Go.Vs
def kL(l:List Nat):List Int:=(List.range 16).map (aJ l)
theorem acn{a b:List Nat}(ha:a.length=16)(hb:b.length=16)(h:kL a=kL b):a=b:=by
 refine List.ext_getElem (by omega) λj h1 h2=>?_
 have:=congrArg (λl=>l[j]?) h;simp only[kL,List.getElem?_map,List.getElem?_range (show j<16 by omega),Option.map_some,axU]at this;rw[gL h1,gL h2]at this;omega
theorem Mf{a b:List Nat}(ha:a.length=16)(hb:b.length=16)(h:aT (kL a)=aT (kL b)):a=b:=acn ha hb (qs (by simp[kL]) h)
theorem Ko(a:List Nat):aT (kL a)≠0:=Nat.ne_of_gt (mi (by simp[kL]))
theorem OQ{v:V1}{b:List Nat}(hb:hZ b){i:Nat}{n lo hi:Int}(hn:n=(b.length:Int))(cj:i<=b.length)(NN:lo=(i:Int))(hhi:hi=((i+min 43 (b.length - i):Nat):Int)){R:Int->Int->Int->Int->Int->Int->Int->(Nat->Int)->Prop}
  (h1: ∀r,nL ((b.drop i).take 43)=some r->R (r.peer:Int) (bi r.out) (r.outcome:Int) (r.eD:Int) (r.bP:Int) (r.ended:Int) 0 (aJ r.id)) (h2:nL ((b.drop i).take 43)=none->R 0 0 0 0 0 0 9 (λ_=>0)):
  ∃post,ao ax8 75 [(aK 1 v.v (ag lo) (ag hi) (some (ag hi)))] [aA false 5 1 v.v (ag n) (aG (ag n) [ax .u8 1 (aJ b)])] post/\
   ∀x hs,post x hs->∃x3:Int,∃x4:Int,∃x5:Int,∃x6:Int,∃x7:Int,∃x8:Int,∃x9:Int,∃A9:(Nat->Int),x= .tuple #[.agg (axQ (aj .u8 16 A9) ([.int .u8 x3,.bool (!(x4==0)),.int .u8 x5,.int .u64 x6,.int .u64 x7,.int .u64 x8])).toArray,.int .i64 x9]/\hs=[aA false 5 1 v.v (ag n) (aG (ag n) [ax .u8 1 (aJ b)])]/\R x3 x4 x5 x6 x7 x8 x9 A9:=by
 subst hn NN hhi;simp only[ax3];have em:(b.drop i).take 43=(b.drop i).take (i+min 43 (b.length - i) - i):=by
  rw[List.take_eq_take_iff,List.length_drop];omega
 refine⟨λr hs=>hs=[aN false v.v b]/\Td ((b.drop i).take 43) r,?_,?_⟩
 .have hm:=OP ⟨aK 1 v.v i (i+min 43 (b.length - i)) (some (i+min 43 (b.length - i))),cD ..⟩ ((b.drop i).take 43) ((hb.drop i).take 43);refine ao.post (ao.pre (ao.frame hm [aN false v.v b]) ?_) ?_
  .exact bq.trans (bq.dup rfl []) (bq.view (by omega) (by omega) (λm h=>by cases h;omega) em _ 0 rfl)
  .rintro r hs ⟨lU,rfl,rfl,h⟩;exact⟨_,bq.sub (List.sublist_append_right [_] [aN false v.v b]),rfl,h⟩
 .rintro x hs ⟨rfl,⟨r,hr,rfl⟩ | ⟨hr,rfl⟩⟩
  .exact⟨_,_,_,_,_,_,0,_,rfl,rfl,h1 r hr⟩
  .exact⟨0,0,0,0,0,0,9,_,rfl,rfl,h2 hr⟩
theorem Kp{m:List Nat}{r:Rec}(h:nL m=some r):r.id.length=16/\m.length=43:=by
 unfold nL at h;split at h
 .rename_i hh;cases h;exact⟨by simp[wM];omega,hh.1⟩
 .cases h
set_option maxHeartbeats 1000000 in
theorem OR(v:V1)(b:List Nat)(hb:hZ b):ao ax8 36 [v.v] [aN false v.v b] λr hs=>hs=[]/\∃a e:Int,r= .tuple #[dr a,.int .i64 e]/\(e=0↔y8 b=true):=by
 refine abW _ (b.length:Int) (aJ b) v ?_;unfold SU;intro b0 b1;refine⟨by omega,λ_=>⟨λh=>⟨rfl,0,3,rfl,?_⟩,λhlen=>?_⟩⟩
 .have:y8 b=false:=by
   unfold y8;rw[decide_eq_false (by omega)];rfl
  rw[this];decide
 intro b2 b3 b4 b5 b6 b7 b8 D9 l10 r9;have iW:y8 b=(pc b.length b []).isSome:=by
  unfold y8;rw[decide_eq_true (by omega)];rfl
 refine⟨λx=> ∃(i n:Nat) (acc:List Rec) (v2:V1) (A1 A2 A3 A4 A5 A6 A7 A8:Nat->Int),x=⟨[],[v2],[(i:Int),(acc.length:Int)],[A1,A2,A3,A4,A5,A6,A7,A8],[],[],[]⟩/\i<=b.length/\pc n (b.drop i) acc=pc b.length b []/\b.length - i<=n/\acc.length*43=i/\
  (∀l:List Nat,l.length=16->(A1 (aT (kL l))≠0↔l∈acc.map (·.id)))/\∀r∈acc,r.id.length=16,λx=>b.length - (x.i.getD 0 0).toNat,?_,?_⟩
 .exact⟨⟨.slice none 0 0,rfl⟩,_,_,_,λ_=>0,λ_=>0,λ_=>0,λ_=>0,λ_=>0,λ_=>0,λ_=>0,rfl,rfl,rfl,rfl,rfl,λ_ _=>rfl,λ_ _=>rfl,λ_ _=>rfl,λ_ _=>rfl,λ_ _=>rfl,λ_ _=>rfl,λ_ _=>rfl,
   0,b.length,[],_,_,_,_,_,_,_,_,_,rfl,by omega,rfl,by omega,rfl,λl _=>by simp,by simp⟩
 rintro v2 x1 x2 A1 A2 A3 A4 A5 A6 A7 A8 ⟨i,n,acc,v2,A1,A2,A3,A4,A5,A6,A7,A8,hx,hi,Xv,hn,Xu,hA,amd⟩;simp only[Ext.mk.injEq,List.cons.injEq,and_true,true_and]at hx;obtain⟨rfl,⟨rfl,rfl⟩,rfl,rfl,rfl,rfl,rfl,rfl,rfl,rfl⟩:=hx;have ame:ar .jl .i64 43 ((b.length:Int) - (i:Int))=((min 43 (b.length - i):Nat):Int):=by
  have:ar .jl .i64 43 ((b.length:Int) - (i:Int))=if(b.length:Int) - (i:Int)<43 then(b.length:Int) - (i:Int)else 43:=rfl
  rw[this];split<;>omega
 rw[ame];refine⟨by omega,λ_=>⟨λcC=>?_,λlS=>?_⟩⟩
 .iterate 7 refine⟨by omega,λ_=>?_⟩
  have fL:b.drop i≠[]:=by
   intro h;have:=congrArg List.length h;rw[List.length_drop,aya]at this;omega
  obtain⟨n,rfl⟩: ∃n',n=n'+1:=⟨n - 1,by omega⟩;refine OQ hb rfl hi rfl (by omega) ?_ ?_
  .intro r hr;obtain⟨Xy,amf⟩:=Kp hr;have lS:i+43<=b.length:=by
    rw[List.length_take,List.length_drop]at amf;omega
   intro DR Mb;have CX:((List.range 16).map (aJ r.id))=kL r.id:=rfl;rw[CX];simp only[ax3];refine⟨λh=>⟨trivial,0,9,rfl,?_⟩,λh=>?_⟩
   .have EJ:r.id∈acc.map (·.id):=by
     rcases h with h | h
     .exact absurd trivial h
     .exact(hA r.id Xy).1 h
    have:pc b.length b []=none:=by
     rw[<-Xv];unfold pc;rw[if_neg fL,hr];simp only;rw[if_pos EJ]
    rw[iW,this];decide
   .have hnm:r.id ∉ acc.map (·.id):=λhm=>h (.inr ((hA r.id Xy).2 hm))
    have S9:pc n (b.drop (i+43)) (acc++[r])=pc b.length b []:=by
     rw[<-Xv]
     conv=>rhs;unfold pc
     rw[if_neg fL,hr];simp only;rw[if_neg hnm,List.drop_drop]
    intro Jf;refine⟨by omega,λ_=>⟨by omega,λ_=>λv3=>⟨by omega,λ_=>⟨by omega,λ_=>?_⟩⟩⟩⟩;refine⟨v3,((i+43:Nat):Int),(((acc++[r]).length:Nat):Int),_,_,_,_,_,_,_,_,by simp,rfl,rfl,rfl,by simp,λ_ _=>rfl,λ_ _=>rfl,λ_ _=>rfl,λ_ _=>rfl,λ_ _=>rfl,λ_ _=>rfl,λ_ _=>rfl,
     ⟨i+43,n,acc++[r],v3,_,_,_,_,_,_,_,_,rfl,lS,S9,by omega,by simp;omega,?_,?_⟩,by simp;omega⟩
    .intro l hl;simp only[au];by_cases he:l=r.id
     .subst he;simp
     .have hc:aT (kL l)≠aT (kL r.id):=λhc=>he (Mf hl Xy hc)
      rw[if_neg hc,if_neg (Ko l),hA l hl];simp[he]
    .intro x hx;rcases ax_.1 hx with hx | hx
     .exact amd x hx
     .rw [ax2.1 hx];exact Xy
  .intro hr;intro DR Mb;refine⟨λ_=>⟨rfl,0,9,rfl,?_⟩,λh=>absurd (.inl (by decide)) h⟩;have:pc b.length b []=none:=by
    rw[<-Xv];unfold pc;rw[if_neg fL,hr]
   rw[iW,this];decide
 .refine⟨rfl,(b3:Nat)+1,0,by rw[fq],?_⟩;have lD:b.drop i=[]:=List.drop_eq_nil_of_le (by omega);have:pc b.length b []=some acc:=by
   rw[<-Xv,lD];cases n<;>(unfold pc;rw[if_pos rfl])
  rw[iW,this];exact⟨λ_=>rfl,λ_=>rfl⟩
open Go Go.RX Go.Proofs Go.Vs
set_option maxHeartbeats 1000000
theorem OS{v:V1}(s:List (List Nat)){n m:Int}(hl:s.length<256^4)(hn:n=(s.length:Int))(hm:m=256){R:Int->Prop}(h: ∀a:Int,R a):
  ∃post,ao ax8 70 [.int .i64 m,v.v] [aA false 36 16 v.v (ag n) (aG (ag n) [ax .u8 16 (cb (λx=>x) s)])] post/\
   ∀x hs,post x hs->∃y:Int,x=(dr y)/\hs=[aA false 36 16 v.v (ag n) (aG (ag n) [ax .u8 16 (cb (λx=>x) s)])]/\R y:=by
 subst hn hm;refine⟨λr hs=>hs=[aA false 36 16 v.v (ag (s.length:Int)) (aG (ag (s.length:Int)) [ax .u8 16 (cb (λx=>x) s)])]/\∃a:Int,r=dr a,?_,?_⟩
 .refine Xo _ (s.length:Int) (cb (λx=>x) s) (λ_=>0) v ?_;unfold Mc;intro b0;refine⟨by omega,λ_=>?_⟩;refine⟨λx=> ∃(i:Nat) (z:Int) (v2:V1) (A2:Nat->Int),x=⟨[],[v2],[(i:Int),z],[A2],[],[],[]⟩/\i<=s.length/\0<=z/\z<=256,λx=>s.length - (x.i.getD 0 0).toNat,?_,?_⟩
  .exact⟨⟨.slice none 0 0,rfl⟩,_,_,λ_=>0,rfl,rfl,rfl,rfl,λ_ _=>rfl,0,0,_,_,rfl,by omega,by omega,by omega⟩
  rintro v2 x1 x2 _ ⟨i,z,v2,A2,hx,hi,h0,h1⟩;simp only[Ext.mk.injEq,List.cons.injEq,and_true,true_and]at hx;obtain⟨rfl,⟨rfl,rfl⟩,rfl⟩:=hx;refine⟨λcC=>?_,λlS=>⟨rfl,(b0:Nat)+1,by rw[fq]⟩⟩;refine⟨by omega,λ_=>?_⟩;intro b1 b2 b3 b4 b5;refine⟨by omega,λ_=>?_⟩;refine⟨λe=>0<=e.i.getD 0 0,λe=>(x2 - e.i.getD 0 0).toNat,⟨0,rfl,Int.le_refl _⟩,?_⟩;intro x3 h3;simp only[ah]at h3;refine⟨λamg=>⟨by omega,λ_=>⟨λ_=>⟨by omega,λ_=>⟨by omega,λ_=>⟨by omega,λ_=>λv3=>⟨v3,((i+1:Nat):Int),x2,_,by simp,rfl,rfl,rfl,λ_ _=>rfl,⟨i+1,x2,v3,_,rfl,by omega,by omega,by omega⟩,by simp;omega⟩⟩⟩⟩,λ_=>⟨by omega,λ_=>⟨by omega,λ_=>⟨_,rfl,?_,?_⟩⟩⟩⟩⟩,λamh=>?_⟩
  .simp only[ah];omega
  .simp only[ah];omega
  .intro b6;refine⟨by omega,λ_=>⟨by omega,λ_=>λv3=>⟨by omega,λ_=>⟨by omega,λ_=>⟨by omega,λ_=>⟨λhov=>⟨by omega,λ_=>⟨by omega,λ_=>⟨λhz=>absurd hz (by omega),λ_=>⟨by omega,λ_=>⟨by omega,λ_=>⟨by omega,λ_=>⟨by omega,λ_=>⟨by omega,λ_=>⟨by omega,λ_=>⟨by omega,λ_=>⟨by omega,λ_=>⟨by omega,λ_=>λv4=>⟨v4,((i+1:Nat):Int),(x2+1) - ((x2+1) - 256),_,by simp,rfl,rfl,rfl,λ_ _=>rfl,⟨i+1,(x2+1) - ((x2+1) - 256),v4,_,rfl,by omega,by omega,by omega⟩,by simp;omega⟩⟩⟩⟩⟩⟩⟩⟩⟩⟩⟩⟩⟩,λFY=>⟨by omega,λ_=>⟨by omega,λ_=>⟨by omega,λ_=>λv4=>⟨v4,((i+1:Nat):Int),x2+1,_,by simp,rfl,rfl,rfl,λ_ _=>rfl,⟨i+1,x2+1,v4,_,rfl,by omega,by omega,by omega⟩,by simp;omega⟩⟩⟩⟩⟩⟩⟩⟩⟩⟩
 .rintro x hs ⟨rfl,a,rfl⟩;exact⟨a,rfl,rfl,h a⟩
theorem OT{v:V1}(s:List js){n m:Int}(hl:s.length<256^4)(hn:n=(s.length:Int))(hm:m=4){R:Int->Prop}(h: ∀a:Int,R a):
  ∃post,ao ax8 72 [.int .i64 m,v.v] [aA false 26 2 v.v (ag n) (aG (ag n) [ax .u8 1 (bu js.a s),ax .u8 1 (bu js.d s)])] post/\
   ∀x hs,post x hs->∃y:Int,x=(dr y)/\hs=[aA false 26 2 v.v (ag n) (aG (ag n) [ax .u8 1 (bu js.a s),ax .u8 1 (bu js.d s)])]/\R y:=by
 subst hn hm;refine⟨λr hs=>hs=[aA false 26 2 v.v (ag (s.length:Int)) (aG (ag (s.length:Int)) [ax .u8 1 (bu js.a s),ax .u8 1 (bu js.d s)])]/\∃a:Int,r=dr a,?_,?_⟩
 .refine Xp _ (s.length:Int) (bu js.a s) (bu js.d s) v ?_;unfold Md;intro b0;refine⟨by omega,λ_=>?_⟩;refine⟨λx=> ∃(i:Nat) (z:Int) (v2:V1) (A2 A3:Nat->Int),x=⟨[],[v2],[(i:Int),z],[A2,A3],[],[],[]⟩/\i<=s.length/\0<=z/\z<=4,λx=>s.length - (x.i.getD 0 0).toNat,?_,?_⟩
  .exact⟨⟨.slice none 0 0,rfl⟩,_,_,λ_=>0,λ_=>0,rfl,rfl,rfl,rfl,λ_ _=>rfl,λ_ _=>rfl,0,0,_,_,_,rfl,by omega,by omega,by omega⟩
  rintro v2 x1 x2 _ _ ⟨i,z,v2,A2,A3,hx,hi,h0,h1⟩;simp only[Ext.mk.injEq,List.cons.injEq,and_true,true_and]at hx;obtain⟨rfl,⟨rfl,rfl⟩,rfl,rfl⟩:=hx;refine⟨λcC=>?_,λlS=>⟨rfl,(b0:Nat)+1,by rw[fq]⟩⟩;refine⟨by omega,λ_=>?_⟩;intro b1 b2 b3 b4 b5;refine⟨by omega,λ_=>?_⟩;refine⟨λe=>0<=e.i.getD 0 0,λe=>(x2 - e.i.getD 0 0).toNat,⟨0,rfl,Int.le_refl _⟩,?_⟩;intro x3 h3;simp only[ah]at h3;refine⟨λamg=>⟨by omega,λ_=>⟨λ_=>⟨by omega,λ_=>⟨by omega,λ_=>⟨by omega,λ_=>λv3=>⟨v3,((i+1:Nat):Int),x2,_,_,by simp,rfl,rfl,rfl,λ_ _=>rfl,λ_ _=>rfl,⟨i+1,x2,v3,_,_,rfl,by omega,by omega,by omega⟩,by simp;omega⟩⟩⟩⟩,λ_=>⟨by omega,λ_=>⟨by omega,λ_=>⟨_,rfl,?_,?_⟩⟩⟩⟩⟩,λamh=>?_⟩
  .simp only[ah];omega
  .simp only[ah];omega
  .intro b6;refine⟨by omega,λ_=>⟨by omega,λ_=>λv3=>⟨by omega,λ_=>⟨by omega,λ_=>⟨by omega,λ_=>⟨λhov=>⟨by omega,λ_=>⟨by omega,λ_=>⟨λhz=>absurd hz (by omega),λ_=>⟨by omega,λ_=>⟨by omega,λ_=>⟨by omega,λ_=>⟨by omega,λ_=>⟨by omega,λ_=>⟨by omega,λ_=>⟨by omega,λ_=>⟨by omega,λ_=>⟨by omega,λ_=>λv4=>⟨v4,((i+1:Nat):Int),(x2+1) - ((x2+1) - 4),_,_,by simp,rfl,rfl,rfl,λ_ _=>rfl,λ_ _=>rfl,⟨i+1,(x2+1) - ((x2+1) - 4),v4,_,_,rfl,by omega,by omega,by omega⟩,by simp;omega⟩⟩⟩⟩⟩⟩⟩⟩⟩⟩⟩⟩⟩,λFY=>⟨by omega,λ_=>⟨by omega,λ_=>⟨by omega,λ_=>λv4=>⟨v4,((i+1:Nat):Int),x2+1,_,_,by simp,rfl,rfl,rfl,λ_ _=>rfl,λ_ _=>rfl,⟨i+1,x2+1,v4,_,_,rfl,by omega,by omega,by omega⟩,by simp;omega⟩⟩⟩⟩⟩⟩⟩⟩⟩⟩
 .rintro x hs ⟨rfl,a,rfl⟩;exact⟨a,rfl,rfl,h a⟩
theorem Tg{v:V1}{n:Int}{A:Nat->Int}{R:V1->Prop}(h0:0<=n)(h1:n<=256^4)(h: ∀o:V1,R o):
  ∃post,ao ax8 117 [v.v] [aA false 5 1 v.v (ag n) (aG (ag n) [ax .u8 1 A])] post/\
   ∀x hs,post x hs->∃v2:V1,x=v2.v/\hs=[aA false 5 1 v.v (ag n) (aG (ag n) [ax .u8 1 A])]/\R v2:=by
 refine⟨λr hs=> ∃o:V1,r=o.v/\hs=[aA false 5 1 v.v (ag n) (aG (ag n) [ax .u8 1 A])],?_,?_⟩
 .refine abT _ n A v ?_;unfold SQ;exact⟨λ_=>⟨⟨.slice none 0 0,rfl⟩,rfl,rfl⟩,λ_=>λv1=>⟨h0,λ_=>⟨h0,λ_=>⟨by omega,λ_=>λv2=>⟨v2,rfl,rfl⟩⟩⟩⟩⟩
 .rintro x hs ⟨o,rfl,rfl⟩;exact⟨o,rfl,rfl,h o⟩
theorem BR(a:Nat)(m:List Nat)(cP:Int):sP a m cP=true↔a<8/\1<=m.length/\m.length<=4/\ -1<=cP/\cP<(m.length:Int)/\∀x∈m,1<=x/\x<=4:=by
 simp[sP,and_assoc]
theorem Th{v:V1}(m:List Nat){n a cP:Int}{acc:Nat}(hm:m.length<256^4)(ha:a=(acc:Int))(hn:n=(m.length:Int)){R:Int->Int->Prop}(h: ∀y e:Int,(e=0↔sP acc m cP=true)->R y e):
  ∃post,ao ax8 71 [.int .u8 a,v.v,.int .i64 cP] [aA false 5 1 v.v (ag n) (aG (ag n) [ax .u8 1 (aJ m)])] post/\
   ∀x hs,post x hs->∃y1:Int,∃y2:Int,x= .tuple #[(dr y1),.int .i64 y2]/\hs=[aA false 5 1 v.v (ag n) (aG (ag n) [ax .u8 1 (aJ m)])]/\R y1 y2:=by
 subst ha hn;refine⟨λr hs=>hs=[aA false 5 1 v.v (ag (m.length:Int)) (aG (ag (m.length:Int)) [ax .u8 1 (aJ m)])]/\∃y e:Int,r= .tuple #[dr y,.int .i64 e]/\(e=0↔sP acc m cP=true),?_,?_⟩
 .have Bc:=abS (λr hs=>hs=[]/\∃y e:Int,r= .tuple #[dr y,.int .i64 e]/\(e=0↔sP acc m cP=true)) (acc:Int) cP (m.length:Int) (aJ m) v (by
   have no: ∀(_: ¬(acc<8/\1<=m.length/\m.length<=4/\ -1<=cP/\cP<(m.length:Int)/\∀x∈m,1<=x/\x<=4)),([]:List HP)=[]/\∃y e:Int,Value.tuple #[.pointer none,.int .i64 2]= .tuple #[dr y,.int .i64 e]/\(e=0↔sP acc m cP=true):=
    λh=>⟨rfl,0,2,rfl,by rw[BR];exact⟨λh2=>by omega,λh2=>absurd h2 h⟩⟩
   unfold SP;refine⟨by omega,λ_=>⟨λhb=>no (by omega),λhb=>?_⟩⟩;intro b0;refine⟨λx=> ∃(i:Nat) (v2:V1) (A:Nat->Int),x=⟨[],[v2],[(i:Int),(i:Int)],[A],[],[],[]⟩/\i<=m.length,λx=>m.length - (x.i.getD 0 0).toNat,?_,?_⟩
   .exact⟨⟨.slice none 0 0,rfl⟩,_,_,λ_=>0,rfl,rfl,rfl,rfl,λ_ _=>rfl,0,_,_,rfl,by omega⟩
   rintro v2 x3 x4 A1 ⟨i,v2,A1,hx,hi⟩;simp only[Ext.mk.injEq,List.cons.injEq,and_true,true_and]at hx;obtain⟨rfl,⟨rfl,rfl⟩,rfl⟩:=hx;refine⟨λcC=>?_,λlS=>?_⟩
   .intro b1;exact⟨by omega,λ_=>⟨by omega,λ_=>λv3=>⟨by omega,λ_=>⟨by omega,λ_=>⟨v3,((i+1:Nat):Int),((i+1:Nat):Int),_,by simp,rfl,rfl,by simp,λ_ _=>rfl,⟨i+1,v3,_,rfl,by omega⟩,by simp;omega⟩⟩⟩⟩⟩
   .refine⟨.inr (by omega),λ_=>⟨λFX=>no (by omega),λFX=>⟨by omega,λ_=>?_⟩⟩⟩;refine⟨λx=> ∃j:Nat,x=⟨[],[],[(j:Int)],[],[],[],[]⟩/\j<=m.length/\∀x∈m.take j,1<=x/\x<=4,λx=>m.length - (x.i.getD 0 0).toNat,⟨0,rfl,0,rfl,by omega,by simp⟩,?_⟩;rintro x5 ⟨j,hx,hj,oO⟩;simp only[Ext.mk.injEq,List.cons.injEq,and_true,true_and]at hx;subst hx;refine⟨λcC=>?_,λlS=>?_⟩
    .have eF:j<m.length:=by omega
     simp only[ax3];rw[gL eF];refine⟨by omega,λ_=>⟨λhb3=>⟨trivial,(no λhh=>?_).2⟩,λhb3=>⟨by omega,λ_=>⟨by omega,λ_=>⟨((j+1:Nat):Int),by simp,⟨j+1,rfl,by omega,?_⟩,by simp;omega⟩⟩⟩⟩⟩
     .have:=hh.2.2.2.2.2 _ (List.getElem_mem eF);omega
     .rw [du _ _ eF];intro x hx;rcases ax_.1 hx with hx | hx
      .exact oO x hx
      .rw [ax2.1 hx];omega
    .refine Tg (by omega) (by omega) λv3=>?_
     refine⟨rfl,(b0:Nat)+1,0,by rw[fq],?_⟩;rw[BR];refine⟨λ_=>?_,λ_=>rfl⟩;have:j=m.length:=by omega
     subst this;rw[List.take_length]at oO;exact⟨by omega,by omega,by omega,by omega,by omega,oO⟩)
  refine(ao.pre (ao.frame Bc [aN false v.v m]) (bq.dup rfl [])).post ?_;rintro r hs ⟨lU,rfl,rfl,h⟩;exact⟨_,bq.refl _,rfl,h⟩
 .rintro x hs ⟨rfl,y,e,rfl,h'⟩;exact⟨y,e,rfl,rfl,h y e h'⟩
abbrev HR(c:Vs.Call)(cP:Int)(v0 v1 v2:Value):List Value:= .int .u8 (c.me.a:Int)::(.int .u8 (c.me.d:Int)::(axQ (aj .u8 8 (aJ c.bE)) (v0::(.int .u8 (c.state:Int)::(axQ (aj .u8 16 (aJ c.id)) (.bool (!(bi c.out==0))::(.int .u8 (c.aM:Int)::(.int .u8 (c.peer.a:Int)::(.int .u8 (c.peer.d:Int)::(axQ (aj .u8 32 (aJ c.own)) (axQ (aj .u8 32 (aJ c.cH)) (axQ (aj .u8 32 (aJ c.fi)) ([v1,.int .i64 cP,v2,.int .u64 (c.eD:Int),.int .u64 (c.bP:Int),.int .u64 (c.since:Int),.int .u64 (c.heard:Int),.int .u64 (c.lJ:Int),.int .u32 (c.fQ:Int)])))))))))))))
theorem OU(c:Vs.Call)(cP:Int)(v0 v1 v2:V1)(h0:c.dead.length<256^4)(h1:c.marks.length<256^4)(h2:c.early.length<256^4):
  ao ax8 35 [.agg (HR c cP v0.v v1.v v2.v).toArray] [y5 false v0.v c.dead,aN false v1.v c.marks,y6 false v2.v c.early] λr hs=>hs=[]/\∃a e:Int,r= .tuple #[dr a,.int .i64 e]/\(e=0↔yd c cP=true):=by
 refine abU _ (c.me.a:Int) (c.me.d:Int) (c.state:Int) (bi c.out) (c.aM:Int) (c.peer.a:Int) (c.peer.d:Int) cP (c.eD:Int) (c.bP:Int) (c.since:Int) (c.heard:Int) (c.lJ:Int) (c.fQ:Int) (c.dead.length:Int) (c.marks.length:Int) (c.early.length:Int) (aJ c.bE) (aJ c.id) (aJ c.own) (aJ c.cH) (aJ c.fi) (cb (λx=>x) c.dead) (aJ c.marks) (bu js.a c.early) (bu js.d c.early) v0 v1 v2 ?_;unfold SR;have hi:yd c cP=true↔c.dead.length<=256/\c.state<=4/\(c.state=1->sP c.aM c.marks cP=true/\c.early.length<=4):=by
  simp[yd,and_assoc];intro _ _;by_cases h:c.state=1<;>simp[h]
 intro b0 b1 b2 b3 b4;refine OS c.dead h0 rfl rfl λy=>?_
 refine⟨by omega,λ_=>⟨λhb=>⟨rfl,0,2,rfl,by rw[hi];omega⟩,λhb=>⟨λhs=>?_,λhs=>⟨rfl,(b4:Nat)+1,0,by rw[fq],by rw[hi];omega⟩⟩⟩⟩;refine Th c.marks h1 rfl rfl λy e he=>?_
 refine⟨.inr (by omega),λ_=>⟨λFX=>⟨rfl,0,2,rfl,?_⟩,λFX=>?_⟩⟩
 .rw [hi,<-he];omega
 .refine OT c.early h2 rfl rfl λy=>?_
  refine⟨rfl,(b4:Nat)+1,0,by rw[fq],?_⟩;rw[hi,<-he];omega
end Go.RX.Vb

namespace Go.RX
theorem aZ.Qt{t s n i c m:Nat}{v:Value}{cs:List Value}(hi:i<n)(hc:c+m<=s):aZ [aA false t s v n cs] (aA false 5 1 (Ay v (i*s+c) m) m ((cs.drop (i*s+c)).take m)):=by
 refine⟨rfl,λw S hS=>?_⟩;obtain⟨⟨h0,h1⟩,hb⟩:=hS.at_ 0 _ rfl;simp only[Bool.false_eq_true,if_false]at h0;obtain⟨hlen,a,k,cp,rfl,hk,as8,lD,mG⟩:=h0;subst hk;cases a with
 | none=>have:=lD rfl;omega
 | some ad=>
  obtain⟨OV,nY⟩:=mG ad rfl;have OV:=OV (by omega);have hle:i*s+c+m<=cs.length:=by
   have:(i+1)*s<=k*s:=Nat.mul_le_mul_right s hi;rw[Nat.succ_mul]at this;omega
  refine⟨λb=>0<m/\S 0 b,⟨⟨by simp only[List.length_take,List.length_drop];omega,some (ad.add (i*s+c)),m,m,rfl,rfl,Nat.le_refl _,λh=>(by cases h),?_⟩,?_⟩,λb P1=>⟨0,by simp,P1.2⟩⟩
  .intro ad' he;cases he;refine⟨λ_=>?_,λj u hj=>?_⟩
   .cases ad with | mk bb oo sp=>simp only at OV;subst OV;rw[gE]
   .have hjm:j<m:=by
     have:=(axT.1 hj).1;rw[List.length_take]at this;omega
    rw[List.getElem?_take_of_lt hjm,List.getElem?_drop]at hj;rw[dS];exact nY _ u hj
  .intro b;have:=h1 b;cases ad with | mk bb oo sp=>
   simp only at OV;subst OV;simp only[Ay];rw[gE];simp only[Value.ownBlock]at this ⊢;constructor
   .rintro ⟨h,h'⟩;exact⟨((this.1 h').1),.inr h⟩
   .rintro ⟨h,h'⟩;rcases h' with h' | h'
    .cases h'
    .exact⟨h',this.2 ⟨h,.inr (by omega)⟩⟩
end Go.RX
namespace Go.RX.Vb
open Go Go.RX Go.Proofs Go.Vs
theorem HS: ∀(i:Nat) (a b:List Nat),i<=a.length->i<=b.length->a.take i=b.take i->ug a b=ug (a.drop i) (b.drop i)
 | 0,_,_,_,_,_=>rfl
 | i+1,[],_,h,_,_=>absurd h (by simp)
 | i+1,_::_,[],_,h,_=>absurd h (by simp)
 | i+1,x::a,y::b,h1,h2,h=>by
  simp only[List.take_succ_cons,List.cons.injEq]at h;obtain⟨rfl,h⟩:=h;simp only[List.drop_succ_cons];rw[<-HS i a b (by simpa using h1) (by simpa using h2) h];simp[ug]
theorem OW(v0 v1:V1)(a b:List Nat)(ha:a.length<=140737488355328):ao ax8 37 [v0.v,v1.v] [aN false v0.v a,aN false v1.v b] λr hs=>hs=[aN false v0.v a,aN false v1.v b]/\∃c:Int,r= .int .i64 c/\(0<=c↔ug a b=false):=by
 refine abP _ (a.length:Int) (b.length:Int) (aJ a) (aJ b) v0 v1 ?_;unfold SN;dsimp only[bQ];refine⟨by omega,λ_=>⟨λx=> ∃i:Nat,x=⟨[],[],[(i:Int)],[],[],[],[]⟩/\i<=a.length/\i<=b.length/\a.take i=b.take i,λx=>a.length - (x.i.getD 0 0).toNat,⟨0,rfl,0,rfl,by omega,by omega,rfl⟩,?_⟩⟩;rintro x2 ⟨i,hx,h1,h2,h3⟩;simp only[Ext.mk.injEq,List.cons.injEq,and_true,true_and]at hx;subst hx;have hd:=HS i a b h1 h2 h3;refine⟨λcC=>⟨by omega,λ_=>⟨by omega,λ_=>⟨λlS=>⟨rfl,1,rfl,?_⟩,λagG=>⟨by omega,λ_=>?_⟩⟩⟩⟩,λlS=>⟨by omega,λ_=>⟨by omega,λ_=>⟨λh=>⟨rfl, -1,rfl,?_⟩,λh=>⟨rfl,0,rfl,?_⟩⟩⟩⟩⟩
 .have hi:i<a.length:=by omega
  rw[hd,List.drop_eq_nil_of_le (show b.length<=i by omega),List.drop_eq_getElem_cons hi];simp[ug]
 .have hi:i<a.length:=by omega
  have hj:i<b.length:=by omega
  simp only[ax3];rw[gL hi,gL hj];rw[List.drop_eq_getElem_cons hi,List.drop_eq_getElem_cons hj]at hd;refine⟨λh=>⟨trivial, -1,rfl,?_⟩,λh=>⟨λh'=>⟨trivial,1,rfl,?_⟩,λh'=>⟨by omega,λ_=>⟨by omega,λ_=>⟨((i+1:Nat):Int),by simp,⟨i+1,rfl,by omega,by omega,?_⟩,by simp;omega⟩⟩⟩⟩⟩
  .rw [hd];simp only[ug];rw[if_pos (by omega)];decide
  .rw [hd];simp only[ug];rw[if_neg (by omega),if_pos (by omega)];decide
  .rw [du _ _ hi,du _ _ hj,h3];congr 2;omega
 .have hi:i=a.length:=by omega
  rw[hd,List.drop_eq_nil_of_le (by omega),List.drop_eq_getElem_cons (show i<b.length by omega)];simp[ug]
 .rw [hd,List.drop_eq_nil_of_le (show a.length<=i by omega),List.drop_eq_nil_of_le (show b.length<=i by omega)];simp[ug]
end Go.RX.Vb

namespace Go.RX
theorem aZ.mem{L:List HP}{h:HP}(hm:h∈L)(hw:h.wr=false):aZ L h:=by
 obtain⟨a,b,rfl⟩:=List.append_of_mem hm;have:=aZ.mid (A:=a) (C:=b) (aZ.self hw)
 rwa[ayl]at this
theorem bq.Ti{L:List HP}(hw: ∀h∈L,h.wr=false):bq L (L++L):=by
 have:=bq.views (A:=[]) (B:=L) (L:=L++L) λh hh=>by
  rcases ax_.1 hh with hh | hh<;>exact aZ.mem hh (hw h hh)
 simpa using this
theorem ao.looks{P:Program}{f:Nat}{args:List Value}{L:List HP}{Q:Value->Prop}(hm:ao P f args L λr hs=>hs=[]/\Q r)(hw: ∀h∈L,h.wr=false):ao P f args L λr hs=>hs=L/\Q r:=by
 refine(ao.pre (ao.frame hm L) (bq.Ti hw)).post ?_;rintro r hs ⟨lU,rfl,rfl,h⟩;exact⟨_,bq.refl _,rfl,h⟩
theorem pf{P:Program}{f:Nat}{args:List Value}{L B:List HP}{Q:Value->Prop}(hm:ao P f args L λr hs=>hs=[]/\Q r)(hL: ∀h∈L,aZ B h):
  ao P f args B λr hs=>hs=B/\Q r:=by
 have h:ao P f args ([]++L) λr hs=> ∃nw,(Q r/\nw=[])/\hs=[]++nw:=by
  refine ao.post hm ?_;rintro r hs ⟨rfl,hr⟩;exact⟨[],bq.refl _,[],⟨hr,rfl⟩,rfl⟩
 refine ao.post (ao.Y3 h (by simp) ?_ hL) ?_
 .rintro v nw ⟨_,rfl⟩ h hh;cases hh
 .rintro r hs ⟨nw,⟨hr,rfl⟩,rfl⟩;exact⟨B,by simpa using bq.refl B,rfl,hr⟩
end Go.RX
namespace Go.RX.Vb
open Go Go.RX Go.Proofs Go.Vs
theorem Mg: ∀a:List Nat,ug a a=false
 | []=>rfl
 | x::a=>by simp[ug,Mg a]
theorem D0: ∀(a b c:List Nat),ug a b=true->ug b c=true->ug a c=true
 | [],[],_,h,_=>by simp[ug]at h
 | [],_::_,[],_,h=>by simp[ug]at h
 | [],_::_,_::_,_,_=>rfl
 | _::_,[],_,h,_=>by simp[ug]at h
 | _::_,_::_,[],_,h=>by simp[ug]at h
 | x::a,y::b,z::c,h1,h2=>by
  simp only[ug]at h1 h2 ⊢;by_cases e1:x<y
  .by_cases e2:y<z
   .rw [if_pos (by omega)]
   .by_cases e3:z<y
    .rw [if_neg e2,if_pos e3]at h2;cases h2
    .rw [if_pos (by omega)]
  .by_cases e1':y<x
   .rw [if_neg e1,if_pos e1']at h1;cases h1
   .rw [if_neg e1,if_neg e1']at h1;by_cases e2:y<z
    .rw [if_pos (by omega)]
    .by_cases e3:z<y
     .rw [if_neg e2,if_pos e3]at h2;cases h2
     .rw [if_neg e2,if_neg e3]at h2;rw[if_neg (by omega),if_neg (by omega)];exact D0 a b c h1 h2
abbrev Xz(b:Nat)(A B:Nat->Int):HP:=pA b [.u8,.u8,.u8,.u8,.u8,.u8,.u8,.u8,.u8,.u8,.u8,.u8,.u8,.u8,.u8,.u8] true false ([.pointer none]) A (Rd [vF 1 B])
theorem HT{b0 b1:Nat}{x0 x1 x2 x3 x4 x5 x6:Int}{A0 A1 A2 A B:Nat->Int}{out:Bool}{q:Int}(hq:q=bi out)(id:List Nat)(hid: ∀j,j<16->A2 j=aJ id j)(h0:A (aT (kL id))=0)(h1:B (aT (kL id))=0)(h2:A 0<8){R:Nat->Int->Int->Int->(Nat->Int)->(Nat->Int)->Bool->Prop}
  (h: ∀(b:Nat) (y1 y2:Int),R b y1 y2 x6 (au (au A 0 (A 0+1)) (aT (kL id)) 1) (au B (aT (kL id)) ((b:Nat)+1)) out):
  ∃post,ao ax8 38 [.pointer (some ⟨b0,0,none⟩),.agg (axQ (aj .u8 16 A2) ([])).toArray,.int .u8 x6,.bool (!(q==0))] [ak b0 true (.int .u8 x0::(.int .u8 x1::(.nilIface::(axQ (aj .u8 32 A0) (.int .u64 x2::((dr x3)::((dr x4)::((dr x5)::(.map (some b1)::(axQ (aj .u8 16 A1) ([]))))))))))),Xz b1 A B] post/\
   ∀x hs,post x hs->∃b4:Nat,∃y1:Int,∃y2:Int,∃y3:Int,∃iG:(Nat->Int),∃kH:(Nat->Int),∃q0:Bool,x= .tuple #[.pointer (some ⟨b4,0,none⟩),.bool true]/\hs=[ak b0 true (.int .u8 x0::(.int .u8 x1::(.nilIface::(axQ (aj .u8 32 A0) (.int .u64 x2::((dr x3)::((dr x4)::((dr x5)::(.map (some b1)::(axQ (aj .u8 16 A1) ([]))))))))))),Xz b1 iG kH,ak b4 true ([(dr y1),(dr y2),.bool false,.bool q0,.int .u8 y3,.int .u64 0])]/\R b4 y1 y2 y3 iG kH q0:=by
 subst hq;have hk:(List.range 16).map A2=kL id:=List.map_congr_left λj hj=>hid j (ayc.1 hj)
 refine⟨λx hs=> ∃(b:Nat) (y1 y2:Int),x= .tuple #[.pointer (some ⟨b,0,none⟩),.bool true]/\hs=[ak b0 true (.int .u8 x0::(.int .u8 x1::(.nilIface::(axQ (aj .u8 32 A0) (.int .u64 x2::((dr x3)::((dr x4)::((dr x5)::(.map (some b1)::(axQ (aj .u8 16 A1) ([]))))))))))),Xz b1 (au (au A 0 (A 0+1)) (aT (kL id)) 1) (au B (aT (kL id)) ((b:Nat)+1)),ak b true ([(dr y1),(dr y2),.bool false,.bool out,.int .u8 x6,.int .u64 0])],?_,?_⟩
 .refine ao.post (abN (λx hs=> ∃(b:Nat) (y1 y2:Int),x= .tuple #[.pointer (some ⟨b,0,none⟩),.bool true]/\List.Sublist [ak b0 true (.int .u8 x0::(.int .u8 x1::(.nilIface::(axQ (aj .u8 32 A0) (.int .u64 x2::((dr x3)::((dr x4)::((dr x5)::(.map (some b1)::(axQ (aj .u8 16 A1) ([]))))))))))),Xz b1 (au (au A 0 (A 0+1)) (aT (kL id)) 1) (au B (aT (kL id)) ((b:Nat)+1)),ak b true ([(dr y1),(dr y2),.bool false,.bool out,.int .u8 x6,.int .u64 0])] hs) x0 x1 x2 x3 x4 x5 x6 (bi out) A0 A1 A2 A B b0 b1 ?_) ?_
  .unfold SL;rw[hk];simp only[ax3];intro b2;refine⟨λhb=>absurd h1 hb,λ_=>⟨λhb=>absurd h2 (by omega),λ_=>?_⟩⟩;intro b3 b4 b5 b6 b7 b8 b9 y4 DR Mb;refine⟨b6,(b5:Nat)+1,(Mb:Nat)+1,rfl,?_⟩;rw[h0,jv,fq,fq,show A 0+1 - ar .jl .i64 0 1=A 0+1 from Int.sub_zero _];exact .cons_cons _ (.cons_cons _ (.cons _ (.cons _ (.cons _ (.cons _ (.cons_cons _ .slnil))))))
  .rintro x hs ⟨b,y1,y2,rfl,lU⟩;exact⟨_,bq.sub lU,b,y1,y2,rfl,rfl⟩
 .rintro x hs ⟨b,y1,y2,rfl,rfl⟩;exact⟨b,y1,y2,_,_,_,_,rfl,rfl,h b y1 y2⟩
open Go.RX Go.Proofs
set_option maxRecDepth 100000
def Tj(al:PT)(x0:Int)(A0:Nat->Int)(q0:Bool)(v0:V1)(b0 b1 b2:Nat)(p0:HP):Prop:=
 ∀b3 b4:Nat,Cl 21 [pp b0,.int .u64 0,.int .i64 1] [gV b0 v0 q0,bQ v0 x0 A0] <| nj b0 λv1 x1 x2 A1 q1=>
 Cl 21 [pp b0,.int .u64 0,.int .i64 1] [gV b0 v1 q1,bQ v1 x2 A1] λx hs _=> ∃(v2:V1) (x3 x4:Int) (A2:Nat->Int) (q2:Bool),x= .int .u64 x3/\hs=[gV b0 v2 q2,bQ v2 x4 A2]/\
 Cl 21 [pp b0,.int .u64 0,.int .i64 4] [gV b0 v2 q2,bQ v2 x4 A2] λx hs _=> ∃(v3:V1) (x5 x6:Int) (A3:Nat->Int) (q3:Bool),x= .int .u64 x5/\hs=[gV b0 v3 q3,bQ v3 x6 A3]/\
 ∃(bO:Ext->Prop) (dG:Ext->Nat),(∃(v5 v6:V1) (x7 x8 x9:Int) (A4 A5 A6 A7 A8 A9 dM dx dC fH gw gx fw eY eQ fb fg fR iB jk iG:Nat->Int) (q4:Bool),∃p1:HP,x7=x5/\v5=v3/\q4=q3/\v5=v3/\x8=x6/\cG x8 A4 A3/\v6=(⟨.slice none 0 0,rfl⟩:V1)/\p1=p0/\v6=(⟨.slice none 0 0,rfl⟩:V1)/\x9=0/\cG (x9*32) A5 (λ_=>0)/\cG (x9*32) A6 (λ_=>0)/\cG (x9*32) A7 (λ_=>0)/\cG (x9*32) A8 (λ_=>0)/\cG x9 A9 (λ_=>0)/\cG x9 dM (λ_=>0)/\cG x9 dx (λ_=>0)/\cG x9 dC (λ_=>0)/\cG (x9*32) fH (λ_=>0)/\cG x9 gw (λ_=>0)/\cG (x9*32) gx (λ_=>0)/\cG x9 fw (λ_=>0)/\cG x9 eY (λ_=>0)/\cG x9 eQ (λ_=>0)/\cG (x9*32) fb (λ_=>0)/\cG (x9*32) fg (λ_=>0)/\cG x9 fR (λ_=>0)/\cG x9 iB (λ_=>0)/\cG x9 jk (λ_=>0)/\cG x9 iG (λ_=>0)/\bO ⟨[],[v5,v6],[x7,x8,x9],[A4,A5,A6,A7,A8,A9,dM,dx,dC,fH,gw,gx,fw,eY,eQ,fb,fg,fR,iB,jk,iG],[q4],[p1],[]⟩)/\
 ∀(v5 v6:V1) (x7 x8 x9:Int) (A4 A5 A6 A7 A8 A9 dM dx dC fH gw gx fw eY eQ fb fg fR iB jk iG:Nat->Int) (q4:Bool),∀p1:HP,bO ⟨[],[v5,v6],[x7,x8,x9],[A4,A5,A6,A7,A8,A9,dM,dx,dC,fH,gw,gx,fw,eY,eQ,fb,fg,fR,iB,jk,iG],[q4],[p1],[]⟩->
 bf ((0<x7)/\(¬(q4=true))) (
 ∀b5:Nat,Cl 105 [pp b0,pp b5] [gV b0 v5 q4,bQ v5 x8 A4,afA b5,p1] λx hs _=> ∃(v7:V1) (bA bH bR bN dP b_ dD cq dt cO d_ gN eT:Int) (kH mT mQ oS qH pK qI rO sH:Nat->Int) (q5:Bool),∃p2:HP,x= .tuple #[]/\hs=[gV b0 v7 q5,bQ v7 eT kH,ak b5 true (axQ (aj .u8 32 mT) (axQ (aj .u8 32 mQ) (axQ (aj .u8 32 oS) (axQ (aj .u8 32 qH) (.bool (!(bA==0))::(.bool (!(bH==0))::(.bool (!(bR==0))::(.bool (!(bN==0))::(axQ (aj .u8 32 pK) (.int .u32 dP::(axQ (aj .u8 32 qI) (.int .u32 b_::(.int .u32 dD::((bg cq)::(axQ (aj .u8 32 rO) (axQ (aj .u8 32 sH) ([.bool (!(dt==0)),.int .u32 cO,.bool (!(d_==0)),.bool (!(gN==0))]))))))))))))))))),p2]/\
 ∀_:Nat,ay (0<=x9) (
 j8 ((x9+1)*312) (
 ∀v8:V1,∃(Qp v6':V1) (YB PS xi:Int) (Ax Dq HN OJ Zm A9' agH Tk Tl Tm agI agJ Tn Hs Tp Tq wJ sM BL BM HK:Nat->Int) (q4':Bool),∃Zq:HP,YB=(ae .u64 (x7 - 1))/\Qp=v7/\q4'=q5/\Qp=v7/\PS=eT/\cG PS Ax kH/\v6'=v8/\Zq=p2/\v6'=v8/\xi=(x9+1)/\cG (xi*32) Dq (bV A5 (ag (x9*32)) 32 mT)/\cG (xi*32) HN (bV A6 (ag (x9*32)) 32 mQ)/\cG (xi*32) OJ (bV A7 (ag (x9*32)) 32 oS)/\cG (xi*32) Zm (bV A8 (ag (x9*32)) 32 qH)/\cG xi A9' (au A9 (ag x9) bA)/\cG xi agH (au dM (ag x9) bH)/\cG xi Tk (au dx (ag x9) bR)/\cG xi Tl (au dC (ag x9) bN)/\cG (xi*32) Tm (bV fH (ag (x9*32)) 32 pK)/\cG xi agI (au gw (ag x9) dP)/\cG (xi*32) agJ (bV gx (ag (x9*32)) 32 qI)/\cG xi Tn (au fw (ag x9) b_)/\cG xi Hs (au eY (ag x9) dD)/\cG xi Tp (au eQ (ag x9) cq)/\cG (xi*32) Tq (bV fb (ag (x9*32)) 32 rO)/\cG (xi*32) wJ (bV fg (ag (x9*32)) 32 sH)/\cG xi sM (au fR (ag x9) dt)/\cG xi BL (au iB (ag x9) cO)/\cG xi BM (au jk (ag x9) d_)/\cG xi HK (au iG (ag x9) gN)/\Dn bO dG ⟨[],[Qp,v6'],[YB,PS,xi],[Ax,Dq,HN,OJ,Zm,A9',agH,Tk,Tl,Tm,agI,agJ,Tn,Hs,Tp,Tq,wJ,sM,BL,BM,HK],[q4'],[Zq],[]⟩ ⟨[],[v5,v6],[x7,x8,x9],[A4,A5,A6,A7,A8,A9,dM,dx,dC,fH,gw,gx,fw,eY,eQ,fb,fg,fR,iB,jk,iG],[q4],[p1],[]⟩))) (
 al (.tuple #[]) [gV b0 v5 q4,bQ v5 x8 A4,ak b1 true ([.int .u8 (ae .u8 x1),.int .u8 (ae .u8 x3),v6.v]),pJ b2 b0,p1,pJ b3 b1,ak b4 true ([pp b1,.pointer (some ⟨b1,1,none⟩)]),aA true 77 268 v6.v (ag x9) (aG (ag x9) [ax .u8 32 A5,ax .u8 32 A6,ax .u8 32 A7,ax .u8 32 A8,cR 1 A9,cR 1 dM,cR 1 dx,cR 1 dC,ax .u8 32 fH,ax .u32 1 gw,ax .u8 32 gx,ax .u32 1 fw,ax .u32 1 eY,cV 1 (λj=>bg (eQ j)),ax .u8 32 fb,ax .u8 32 fg,cR 1 fR,ax .u32 1 iB,cR 1 jk,cR 1 iG])])
theorem acp(al:PT)(x0:Int)(A0:Nat->Int)(q0:Bool)(v0:V1)(b0 b1 b2:Nat)(p0:HP)(h:Tj al x0 A0 q0 v0 b0 b1 b2 p0):ao ax8 102 [pp b1,pp b2] [gV b0 v0 q0,bQ v0 x0 A0,ak b1 true ([.int .u8 0,.int .u8 0,.slice none 0 0]),pJ b2 b0,p0] al:=
 qv (C:=afC) Ve.Rq Ve.hpI Ve.Og ⟨[x0],[A0],[q0],[b0,b1,b2],[v0],[],[p0],[]⟩ 8 Tryz.func102 (by kernel_rfl) h
def Tr(al:PT)(x0:Int)(A0:Nat->Int)(q0:Bool)(v0:V1)(b0 b1 b2:Nat):Prop:=
 Cl 45 [pp b0,.int .i64 16] [gV b0 v0 q0,bQ v0 x0 A0] <| Bw b0 λv1 _ x1 x2 A1 A2 q1=>
 ay (0<=x2) (
 ay (0<=x2) (
 ∀_:Nat,Cl 21 [pp b0,.int .u64 0,.int .i64 1] [gV b0 v1 q1,bQ v1 x1 A1] <| nj b0 λv3 x3 x4 A3 q2=>
 ∀_:Nat,Cl 21 [pp b0,.int .u64 0,.int .i64 1] [gV b0 v3 q2,bQ v3 x4 A3] λx hs _=> ∃(v4:V1) (x5 x6:Int) (A4:Nat->Int) (q3:Bool),x= .int .u64 x5/\hs=[gV b0 v4 q3,bQ v4 x6 A4]/\
 ∀_:Nat,Cl 21 [pp b0,.int .u64 0,.int .i64 8] [gV b0 v4 (q3||(decide (1<x5))),bQ v4 x6 A4] λx hs _=> ∃(v5:V1) (x7 x8:Int) (A5:Nat->Int) (q4:Bool),x= .int .u64 x7/\hs=[gV b0 v5 q4,bQ v5 x8 A5]/\
 al (.tuple #[]) [gV b0 v5 q4,bQ v5 x8 A5,ak b1 true (axQ (aj .u8 16 (bV (λ_=>0) 0 (ag (ar .jl .i64 x2 16)) A2)) ([.int .u8 (ae .u8 x3),.bool (x5==1),.int .u64 x7])),pJ b2 b0]))
theorem acq(al:PT)(x0:Int)(A0:Nat->Int)(q0:Bool)(v0:V1)(b0 b1 b2:Nat)(h:Tr al x0 A0 q0 v0 b0 b1 b2):ao ax8 55 [pp b1,pp b2] [gV b0 v0 q0,bQ v0 x0 A0,ak b1 true (axQ (aj .u8 16 (λ_=>0)) ([.int .u8 0,.bool false,.int .u64 0])),pJ b2 b0] al:=
 qv (C:=afC) Ve.Rq Ve.hpR Ve.akz ⟨[x0],[A0],[q0],[b0,b1,b2],[v0],[],[],[]⟩ 4 Tryz.func55 (by kernel_rfl) h
end Go.RX.Vb
