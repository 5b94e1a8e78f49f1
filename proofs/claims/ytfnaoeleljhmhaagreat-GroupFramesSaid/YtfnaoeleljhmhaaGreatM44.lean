/- The chapter's rows (known): the function answers true. · What the executor is told of GroupFrames: the member is one abstract part of memory. · GroupFrames: the executor's contexts. · The group's functions: what is left to be shown; printed by a program of ours (wip/tools/g11.lean). · GroupFrames, plainly: a frame's key tells its number; what a member answers of its own key. -/
import Derived.Test.YtfnaoeleljhmhaaGreatM43
import Derived.Test.YtfnaoeleljhmhaaGreatM30

namespace Go.RX.Ja
open Go Go.RX Go.Proofs Go.Gp Go.RX.Gb Go.RX.Gf Go.RX.Gl Go.RX.Gu Go.RX.Gr Go.RX.Ha Go.RX.He Go.RX.Hi Go.RX.Ia
def m0:Me:=newM (0,0)
def m1:Me:=newM (0,1)
def ea:Int×Me×List (Int×Int)×Bool:=enter m0 g1 2 mem2 5 4294967296
def d0:Di:=ownD m0 g1 2 4294967296
def d1:Di:={d0 with key:=1}
def mb1:Me:=took m1 d0
def eb:Int×Me×List (Int×Int)×Bool:=enter mb1 g1 2 mem2 5 8589934592
def mb2:Me:=took eb.2.1 d1
theorem f_ea:ea.1=0∧ea.2.2.1=[(0,1)]∧ownOf ea.2.1=some d0∧d0.kid=64:=by decide
theorem f_ea4:ea.2.2.2=true:=by decide
theorem f_t0:(take m1 d0).1=0:=by decide
theorem f_eb:eb.1=0:=by decide
theorem f_k:keyAns 0 eb.2.1 (0,0) 2=(4294967296,0)∧keyAns 0 eb.2.1 (0,0) 1=(0,241)∧keyAns 0 eb.2.1 (0,2) 2=(0,240):=by decide
theorem f_t1:(take eb.2.1 d1).1=6:=by decide
theorem f_k2:keyAns 0 mb2 (0,0) 2=(4294967296,0):=by decide
theorem ok_d0:OkK d0:=⟨⟨rfl,by decide,by decide,by decide,by decide⟩,by decide,by decide⟩
theorem ok_d1:OkK d1:=⟨⟨rfl,by decide,by decide,by decide,by decide⟩,by decide,by decide⟩
theorem ok_e:OkK (ownD mb1 g1 2 8589934592):=⟨⟨rfl,by decide,by decide,by decide,by decide⟩,by decide,by decide⟩
theorem w_m0:Wf OkK 0 m0:=(inv_new (0,0) (by decide)).wf
theorem w_m1:Wf OkK 0 m1:=(inv_new (0,1) (by decide)).wf
theorem w_ea:Wf OkK 1 ea.2.1:=enter_wf okk_pos w_m0 g1 2 mem2 5 4294967296 ok_d0
theorem w_mb1:Wf OkK 1 mb1:=took_wf w_m1 ok_d0
theorem w_eb:Wf OkK 2 eb.2.1:=enter_wf okk_pos w_mb1 g1 2 mem2 5 8589934592 ok_e
theorem w_mb2:Wf OkK 3 mb2:=took_wf w_eb ok_d1
theorem g_eb:eb.2.1.so=true→eb.2.1.g.length=16:=fun _=>by decide
theorem key_relW{n:Nat}{m:Me}(h:Wf OkK n m)(p:Int×Int)(ep:Int):
  (keyAns zC (m.kf kA) p ep).2=(keyAns 0 m p ep).2∧((keyAns 0 m p ep).2=0→(keyAns zC (m.kf kA) p ep).1=kA (keyAns 0 m p ep).1):=by
 have hk:Gp.keyOf (m.kf kA).held p ep=(Gp.keyOf m.held p ep).map kA:=keyOf_kf kA m.held p ep;unfold keyAns;rw [hk];cases hf:Gp.keyOf m.held p ep with
 | none=>
  refine⟨rfl,fun h=>?_⟩;simp only at h;split at h<;>cases h
 | some k=>exact⟨rfl,fun _=>rfl⟩
def key0:List UInt8:=atomB 4294967296
theorem kA_key:sDec (kA 4294967296)=key0:=by rw [kA,keyC,sDec_code];rfl
def lk(n:Nat):List UInt8:=symB 11 [stepB key0 2,numB n]
theorem f_fr:frameV (ownOf (ea.2.1.kf kA)) 2 7 (atomB 9)=(bldB 4 [] [lk 7,atomB 9],0):=by
 rw [ownOf_kf,f_ea.2.2.1];have:lockV (sDec ((Di.kf kA d0).key)) 2 7=(lk 7,0):=by
  rw [show(Di.kf kA d0).key=kA 4294967296 from rfl,kA_key];rfl
 simp only [Option.map_some,frameV,this,if_true]
theorem lk_ne:lk 7≠lk 8:=by decide
theorem f_un(n:Nat):unframeV (kA 4294967296,0) 2 n (lk 7) (atomB 9)=(if lk 7=lk n then atomB 9 else [],if lk 7=lk n then 0 else 140):=by
 have:lockV (sDec (kA 4294967296)) 2 n=(lk n,0):=by
  rw [kA_key];rfl
 simp only [unframeV,this,if_true]
theorem known_meets:Meets Tryz.prog 6 [] [] fun r hs=>r= .bool true∧hs=[]:=by
 refine(mt_known (fun r _=>r= .bool true) ?_).post fun r hs h=>⟨[],Ent.sub (List.nil_sublist _),h,rfl⟩
 obtain⟨Post,hPost⟩: ∃Post:PT,Post=fun r _=>r= .bool true:=⟨_,rfl⟩
 rw [←hPost];have pt: ∀hs,Post (.bool true) hs:=fun hs=>by rw [hPost]
 unfold st_known;refine⟨_,two_known,fun x hs hq=>?_⟩;obtain⟨b0,b1,u,rfl,rfl⟩:=hq;refine⟨b0,b1,u,2,(mem2.length:Int),fun j=>g1.getD j 0,pF mem2 (·.1),pF mem2 (·.2),_,_,rfl,by rw [dK_dev],?_⟩;rw [dK_dev];intro _;refine⟨_,mp_enter b0 m0 u g1 2 5 4294967296 mem2 0 w_m0 (by decide) (fun h=>by cases h) rfl (by decide) (by decide) ok_d0,fun x hs hq=>?_⟩;obtain⟨uo,rfl,rfl⟩:=hq;refine⟨uo,0,1,pF [(0,1)] (·.1),pF [(0,1)] (·.2),fun t=>d0.g.getD (t%16) 0,fun _=>d0.ep,fun _=>d0.sa,fun _=>d0.sd,fun _=>d0.kid,fun _=>kA d0.key,MP b0 (ea.2.1.kf kA) 4294967297,by rw [show(enter m0 g1 2 mem2 5 ((4294967296:Nat):Int)).1=0 from f_ea.1],?_,?_⟩
 ·have hout:oK true uo 1 (pF [(0,1)] (·.1)) (pF [(0,1)] (·.2)) (fun t=>d0.g.getD (t%16) 0) (fun _=>d0.ep) (fun _=>d0.sa) (fun _=>d0.sd) (fun _=>d0.kid) (fun _=>kA d0.key)=outHP uo [(0,1)] (d0.kf kA):=oK_is (own_cols [(0,1)] (d0.kf kA));rw [hout,←f_ea.2.1];show [MP b0 (ea.2.1.kf kA) (if ea.2.2.2=true then 4294967296+1 else 4294967296),devHP true u mem2,outHP uo ea.2.2.1 (d0.kf kA)]=_;rw [f_ea4,if_pos rfl]
 have ho:=mp_own b0 ea.2.1 4294967297 1 w_ea (by decide);rw [ownOf_kf,f_ea.2.2.1]at ho;refine⟨_,ho,fun x hs hq=>?_⟩;obtain⟨rfl,rfl⟩:=hq;refine⟨d0.ep,d0.sa,d0.sd,d0.kid,kA d0.key,fun j=>d0.g.getD j 0,true,by rw [show dV (fun j=>d0.g.getD j 0) d0.ep d0.sa d0.sd d0.kid (kA d0.key)= .agg (diC (d0.kf kA)).toArray from dV_eq (d0.kf kA)];rfl,rfl,?_⟩;intro _;refine⟨by decide,fun _=>⟨.inr (by decide),fun _=>⟨.inr (by decide),fun _=>⟨.inr (by decide),fun _=>⟨fun _=>?_,fun h=>absurd (by simp) h⟩⟩⟩⟩⟩;intro _;refine⟨.inr (by decide),fun _=>⟨.inr (by decide),fun _=>⟨.inr (by decide),fun _=>⟨fun _=>?_,fun h=>absurd ?_ h⟩⟩⟩⟩;rotate_left
 ·refine fun h=>h.elim (fun h=>h.elim (fun h=>h ⟨rfl,rfl⟩) fun h=>h ⟨fun j hj=>?_,rfl,rfl,rfl,rfl,rfl⟩) fun h=>h f_ea.2.2.2
  show d0.g.getD (j%16) 0=_;rw [Nat.mod_eq_of_lt hj]
 refine⟨_,atom_meets 4294967296,fun x hs hq=>?_⟩;obtain⟨rfl,rfl⟩:=hq;refine⟨keyC 4294967296,by simp only [srowF,strD_rowS,tmV],rfl,fun h=>absurd rfl h,fun _=>?_⟩;rw [show dV (fun j=>d0.g.getD j 0) d0.ep d0.sa d0.sd d0.kid (kA d0.key)= .agg (diC (d0.kf kA)).toArray from dV_eq (d0.kf kA)];refine⟨_,mp_take b1 m1 8589934592 d0 0 w_m1 (by decide) (fun h=>by cases h) ok_d0,fun x hs hq=>?_⟩;obtain⟨rfl,rfl⟩:=hq;rw [f_t0];refine⟨_,_,rfl,rfl,fun h=>absurd rfl h,fun _=>?_⟩;refine⟨_,mp_enter b1 mb1 u g1 2 5 8589934592 mem2 1 w_mb1 (by decide) (fun h=>by cases h) rfl (by decide) (by decide) ok_e,fun x hs hq=>?_⟩;obtain⟨uo2,rfl,rfl⟩:=hq;obtain⟨nb,hnb⟩: ∃nb,nb=(if(enter mb1 g1 2 mem2 5 ((8589934592:Nat):Int)).2.2.2=true then 8589934592+1 else 8589934592):=⟨_,rfl⟩;rw [←hnb];refine⟨uo2,0,(eb.2.2.1.length:Int),pF eb.2.2.1 (·.1),pF eb.2.2.1 (·.2),fun t=>(ownD mb1 g1 2 8589934592).g.getD (t%16) 0,fun _=>(ownD mb1 g1 2 8589934592).ep,fun _=>(ownD mb1 g1 2 8589934592).sa,fun _=>(ownD mb1 g1 2 8589934592).sd,fun _=>(ownD mb1 g1 2 8589934592).kid,fun _=>kA (ownD mb1 g1 2 8589934592).key,MP b1 (eb.2.1.kf kA) nb,by rw [show(enter mb1 g1 2 mem2 5 ((8589934592:Nat):Int)).1=0 from f_eb],?_,?_⟩
 ·have hout:oK true uo2 (eb.2.2.1.length:Int) (pF eb.2.2.1 (·.1)) (pF eb.2.2.1 (·.2)) (fun t=>(ownD mb1 g1 2 8589934592).g.getD (t%16) 0) (fun _=>(ownD mb1 g1 2 8589934592).ep) (fun _=>(ownD mb1 g1 2 8589934592).sa) (fun _=>(ownD mb1 g1 2 8589934592).sd) (fun _=>(ownD mb1 g1 2 8589934592).kid) (fun _=>kA (ownD mb1 g1 2 8589934592).key)=outHP uo2 eb.2.2.1 ((ownD mb1 g1 2 8589934592).kf kA):=oK_is (own_cols eb.2.2.1 ((ownD mb1 g1 2 8589934592).kf kA));rw [hout];rfl
 have key: ∀(p:Int×Int) (ep:Int),_:=fun p ep=>mp_key b1 eb.2.1 nb p ep 2 w_eb (by decide)
 intro _;refine⟨_,key (0,0) 2,fun x hs hq=>?_⟩;obtain⟨rfl,rfl⟩:=hq;refine⟨(keyAns zC (eb.2.1.kf kA) (0,0) 2).1,(keyAns zC (eb.2.1.kf kA) (0,0) 2).2,by simp only [srowF,strD_rowS,tmV],rfl,?_⟩;intro _ _;refine⟨_,atom_meets 1,fun x hs hq=>?_⟩;obtain⟨rfl,rfl⟩:=hq;refine⟨keyC 1,by simp only [srowF,strD_rowS,tmV],rfl,?_⟩;intro _;refine⟨_,key (0,0) 1,fun x hs hq=>?_⟩;obtain⟨rfl,rfl⟩:=hq;refine⟨(keyAns zC (eb.2.1.kf kA) (0,0) 1).1,(keyAns zC (eb.2.1.kf kA) (0,0) 1).2,by simp only [srowF,strD_rowS,tmV],rfl,?_⟩;intro _ _;refine⟨_,key (0,2) 2,fun x hs hq=>?_⟩;obtain⟨rfl,rfl⟩:=hq;refine⟨(keyAns zC (eb.2.1.kf kA) (0,2) 2).1,(keyAns zC (eb.2.1.kf kA) (0,2) 2).2,by simp only [srowF,strD_rowS,tmV],rfl,?_⟩;obtain⟨r1,r2⟩:=key_relW w_eb (0,0) 2;obtain⟨r3,_⟩:=key_relW w_eb (0,0) 1;obtain⟨r4,_⟩:=key_relW w_eb (0,2) 2;rw [f_k.1]at r1 r2;rw [f_k.2.1]at r3;rw [f_k.2.2]at r4;have r2:=r2 rfl;rw [r1,r2,r3,r4];intro _;refine⟨fun _=>?_,fun h=>absurd (fun h=>h.elim (fun h=>h.elim (fun h=>h rfl) fun h=>h rfl) fun h=>h rfl) h⟩;rw [show dV (fun j=>d0.g.getD j 0) d0.ep d0.sa d0.sd d0.kid (keyC 1)= .agg (diC (d1.kf kA)).toArray from dV_eq (d1.kf kA)];refine⟨_,mp_take b1 eb.2.1 nb d1 2 w_eb (by decide) g_eb ok_d1,fun x hs hq=>?_⟩;obtain⟨rfl,rfl⟩:=hq;rw [f_t1];refine⟨_,_,rfl,rfl,fun h=>h.elim (fun h=>h.elim (fun h=>absurd rfl h) fun h=>absurd rfl h) fun h=>absurd rfl h,fun _=>?_⟩;refine⟨_,atom_meets 9,fun x hs hq=>?_⟩;obtain⟨rfl,rfl⟩:=hq;refine⟨keyC 9,by simp only [srowF,strD_rowS,tmV],rfl,?_⟩;have e9:(Value.agg #[.string ⟨(strD (srowF (keyC 9))).toArray⟩])=tv (atomB 9):=by rw [tm_eq,keyC,sDec_code]
 rw [e9];have hfr:=mp_frame b0 ea.2.1 4294967297 2 7 (atomB 9) 1 w_ea (by decide) (by decide);rw [f_fr]at hfr;refine⟨_,hfr,fun x hs hq=>?_⟩;obtain⟨rfl,rfl⟩:=hq;refine⟨((sCode (bldB 4 [] [lk 7,atomB 9]):Nat):Int),0,by rw [code_str];rfl,rfl,?_⟩;rw [code_str];obtain⟨q1,q2⟩:=key_relW w_mb2 (0,0) 2;rw [f_k2]at q1 q2;have hka:keyAns zC (mb2.kf kA) (0,0) 2=(kA 4294967296,0):=Prod.ext (q2 rfl) q1;have hll:(lk 7).length+(atomB 9).length≤100000000:=by
  have h1:(lk 7).length≤2000000:=lockV_len key0 2 7 (by decide);have h2:(atomB 9).length=9:=rfl;omega
 have ek:Enc (lk 7):=enc_lock (enc_atomB 4294967296) 2 7;have un: ∀n:Nat,Meets Tryz.prog 20 [.pointer (some ⟨b1,0,none⟩),.agg #[.int .u8 0,.int .u8 0],.int .u64 2,.int .u64 2,.int .u64 (n:Int),tv (bldB 4 [] [lk 7,atomB 9])] [MP b1 (mb2.kf kA) nb]
   fun r hs=>r= .tuple #[tv (if lk 7=lk n then atomB 9 else []),.int .i64 (if lk 7=lk n then 0 else 140)]∧hs=[MP b1 (mb2.kf kA) nb]:=fun n=>by
  have:=mp_unframe b1 mb2 nb (0,0) 2 2 n (lk 7) (atomB 9) 3 w_mb2 (by decide) (by rw [hka];show(sDec (kA 4294967296)).length≤_;rw [kA_key];decide) ek (enc_atomB 9) hll;rw [hka,f_un n]at this;exact this
 have u7:=un 7;have u8:=un 8;rw [if_pos rfl,if_pos rfl]at u7;rw [if_neg lk_ne,if_neg lk_ne]at u8;have tvs: ∀p:List UInt8,(Value.agg #[.string ⟨(strD (srowF ((sCode p:Nat):Int))).toArray⟩])=tv p:=fun p=>by rw [code_str];rfl
 intro _;refine⟨fun _=>⟨⟨_,u7,fun x hs hq=>?_⟩,fun _=>⟨_,u7,fun x hs hq=>?_⟩⟩,fun _ _=>⟨_,u7,fun x hs hq=>?_⟩⟩
 ·obtain⟨rfl,rfl⟩:=hq;refine⟨((sCode (atomB 9):Nat):Int),0,by rw [tvs],rfl,?_⟩;intro _ _;refine⟨_,u8,fun x hs hq=>?_⟩;obtain⟨rfl,rfl⟩:=hq;refine⟨((sCode ([]:List UInt8):Nat):Int),140,by rw [tvs],rfl,?_⟩;intro _ _ _ _ _ _ _ _ _ _;refine⟨fun _=>⟨_,atom_meets 9,fun x hs hq=>?_⟩,fun h=>absurd rfl h⟩;obtain⟨rfl,rfl⟩:=hq;exact⟨keyC 9,by simp only [srowF,strD_rowS,tmV],rfl,fun _ _ _ _=>pt _,fun h=>absurd ⟨⟨rfl,rfl⟩,rfl⟩ h⟩
 ·obtain⟨rfl,rfl⟩:=hq;refine⟨((sCode (atomB 9):Nat):Int),0,by rw [tvs],rfl,?_⟩;intro _;refine⟨_,u8,fun x hs hq=>?_⟩;obtain⟨rfl,rfl⟩:=hq;refine⟨((sCode ([]:List UInt8):Nat):Int),140,by rw [tvs],rfl,?_⟩;intro _ _ _ _ _ _ _ _ _ _;refine⟨fun _=>⟨_,atom_meets 9,fun x hs hq=>?_⟩,fun h=>absurd rfl h⟩;obtain⟨rfl,rfl⟩:=hq;exact⟨keyC 9,by simp only [srowF,strD_rowS,tmV],rfl,fun _ _ _ _=>pt _,fun h=>absurd ⟨⟨rfl,rfl⟩,rfl⟩ h⟩
 ·obtain⟨rfl,rfl⟩:=hq;refine⟨((sCode (atomB 9):Nat):Int),0,by rw [tvs],rfl,?_⟩;intro _;refine⟨_,u8,fun x hs hq=>?_⟩;obtain⟨rfl,rfl⟩:=hq;refine⟨((sCode ([]:List UInt8):Nat):Int),140,by rw [tvs],rfl,?_⟩;intro _ _ _ _ _ _ _ _ _ _;refine⟨fun _=>⟨_,atom_meets 9,fun x hs hq=>?_⟩,fun h=>absurd rfl h⟩;obtain⟨rfl,rfl⟩:=hq;exact⟨keyC 9,by simp only [srowF,strD_rowS,tmV],rfl,fun _ _ _ _=>pt _,fun h=>absurd ⟨⟨rfl,rfl⟩,rfl⟩ h⟩
end Go.RX.Ja

namespace Go.RX.Ka
open Go.RX Go.RX.Gb Go.RX.Gf Go.RX.Gu Go.RX.He Go.RX.Hi
def ownCall:CallAnn:={use:=fun _ hp=>useAbs hp,inc:={i:=5,a:=1,bo:=1},val:=fun c=> .tup [distR c.i c.a,.bool (.var c.bo)],new:=fun _ h=>h}
def tmErr:CallAnn:={use:=fun _ hp=>useAbs hp,inc:={i:=2},val:=fun c=> .tup [.agg [tm c.i],i64 (c.i+1)],new:=fun _ h=>h}
def callees(f:Nat):Option CallAnn:=
 match f with
 | 14=>some ownCall
 | 15=>some Ia.pureTm
 | 17=>some tmErr
 | 18=>some Ia.tmErr
 | 19=>some Ia.pureTm
 | 20=>some tmErr
 | 21=>some kidCall
 | 22=>some kidCall
 | 255=>some Ia.oneTm
 | 256=>some Ia.pureTm
 | 23=>none
 | 24=>none
 | f=>Hi.callees f
def calleesP(f:Nat):Option CallAnn:=if f=61 then some Ia.oneTm else none
def newAbs(p:Nat):Ck→Ck
 | .abs _=> .abs p
 | x=>x
def isTm1:Ck→Bool
 | .row _ true [.strE _]=>true
 | _=>false
def loops(f id:Nat):Option LoopAnn:=
 match f,id with
 | 3,0=>some {inc:={i:=1,p:=1},slots:=fun c=>[(45,i64 c.i)],hp:=fun c h=>h.map (newAbs c.p)}
 | 3,4=>some {inc:={i:=2},slots:=fun c=>[(120,u64 c.i)],hp:=fun c h=>Ha.lastMap isTm1 (Ia.cellTm (c.i+1)) h}
 | _,_=>none
def joins(f id:Nat):Option JoinAnn:=
 match f,id with
 | 3,100018=>some {inc:={b:=1,i:=1},slots:=fun c=>[(11,.ptr c.b 0)],hp:=fun c h=>h++[.row c.b true [tm c.i]]}
 | 3,2=>some {inc:={p:=1},slots:=fun _=>[],hp:=fun c h=>h.map (newAbs c.p)}
 | _,_=>none
end Go.RX.Ka

namespace Go.RX.Ka
open Go.RX Go.Proofs
noncomputable def cxL:Ctx:={T:=TT,FT:=FT,loops:=Ka.loops,joins:=Ka.joins,callees:=Ka.callees}
noncomputable def cxP:Ctx:={T:=TT,FT:=FT,loops:=Ka.loops,joins:=Ka.joins,callees:=Ka.calleesP}
end Go.RX.Ka

namespace Go.RX.Ka
open Go.RX Go.Proofs Go.RX.Gb
set_option maxRecDepth 100000
def st_lawF(Post:PT)(x0 x1 x2:Int)(A0 A1 A2 A3 A4 A5 A6 A7 A8 A9 A10 A11 A12 A13 A14 A15:Nat→Int)(_:V1):Prop:=
 ∀_:Nat,Cl 6 [] [] fun x hs l=>x= .bool true∧hs=[]∧
 Need (0≤x2) (
 Fork (((100<x2)∨(8≤x0))∨(4≤x1)) (
 Post (.bool true) []) (
 Cl 7 [.int .u64 4294967296] [] fun x hs l=> ∃(b1:Nat) (x3:Int),x=(.iface 135 (.pointer (some ⟨b1,0,none⟩)))∧hs=[rowHP b1 true ([.int .u64 x3])]∧
 Cl 8 [(.iface 135 (.pointer (some ⟨b1,0,none⟩))),.agg #[.int .u8 x0,.int .u8 x1]] [rowHP b1 true ([.int .u64 x3])] fun x hs l=> ∃b2:Nat,∃p0:HP,x= .pointer (some ⟨b2,0,none⟩)∧hs=[p0]∧
 ∃(I0x2:Ext→Prop) (m0x2:Ext→Nat),(∃x4:Int,∃p1:HP,x4=0∧p1=p0∧I0x2 ⟨[],[],[x4],[],[],[p1],[]⟩)∧
 ∀x4:Int,∀p1:HP,I0x2 ⟨[],[],[x4],[],[],[p1],[]⟩→
 Fork (x4<x2) (
 Need (0≤x4) (
 ∀_:Nat,∃I1j6:Ext→Prop,(
 Fork ((A0 (Int.toNat x4))=0) (
 Cl 10 [.agg (.int .u8 (A0 (Int.toNat x4))::(.int .u32 (A1 (Int.toNat x4))::(.int .u64 (A2 (Int.toNat x4))::(List.append (segCells .u8 16 (shiftF A3 (Int.toNat (x4*16)))) (.int .u64 (A4 (Int.toNat x4))::(List.append (segCells .u8 16 (shiftF A5 (Int.toNat (x4*16)))) ([.int .u64 (A6 (Int.toNat x4)),.int .u8 (A7 (Int.toNat x4)),.int .u8 (A8 (Int.toNat x4)),.int .u64 (A9 (Int.toNat x4)),.int .u64 (A10 (Int.toNat x4)),.int .u8 (A11 (Int.toNat x4)),.int .u8 (A12 (Int.toNat x4)),.int .u64 (A13 (Int.toNat x4)),.int .u64 (A14 (Int.toNat x4)),.int .u64 (A15 (Int.toNat x4))]))))))).toArray] [] fun x hs l=> ∃(v1:V1) (x5 x6:Int) (A16 A17 A18:Nat→Int),x= .agg (List.append (segCells .u8 16 A16) ([.int .u64 x5,v1.v])).toArray∧hs=[dK true v1 x6 A17 A18]∧
 Cl 9 [.pointer (some ⟨b2,0,none⟩),.agg (List.append (segCells .u8 16 A16) ([.int .u64 x5,v1.v])).toArray,.int .u64 (A4 (Int.toNat x4))] [p1,dK true v1 x6 A17 A18] fun x hs l=> ∃(v2:V1) (x7 x8:Int) (A19 A20 A21 A22 A23 A24 A25 A26:Nat→Int),∃p2:HP,x= .tuple #[v2.v,.int .i64 x7]∧hs=[p2,dK true v1 x6 A17 A18,oK true v2 x8 A19 A20 A21 A22 A23 A24 A25 A26]∧
 ∃p2':HP,p2'=p2∧I1j6 ⟨[],[],[],[],[],[p2'],[]⟩) (
 Fork ((A0 (Int.toNat x4))=1) (
 Cl 12 [.agg (List.append (segCells .u8 16 (shiftF A5 (Int.toNat (x4*16)))) ([.int .u64 (A6 (Int.toNat x4)),.int .u8 (A7 (Int.toNat x4)),.int .u8 (A8 (Int.toNat x4)),.int .u64 (A9 (Int.toNat x4)),.int .u64 (A10 (Int.toNat x4))])).toArray] [] fun x hs l=> ∃(x5 x6 x7 x8 x9:Int) (A16:Nat→Int),x=(dV A16 x5 x6 x7 x8 x9)∧hs=[]∧
 Cl 11 [.pointer (some ⟨b2,0,none⟩),dV A16 x5 x6 x7 x8 x9] [p1] fun x hs l=> ∃x10:Int,∃p2:HP,x= .int .i64 x10∧hs=[p2]∧
 ∃p2':HP,p2'=p2∧I1j6 ⟨[],[],[],[],[],[p2'],[]⟩) (
 Fork ((A0 (Int.toNat x4))=2) (
 Cl 13 [.pointer (some ⟨b2,0,none⟩),.int .u64 (A4 (Int.toNat x4))] [p1] fun x hs l=> ∃p2:HP,x= .tuple #[]∧hs=[p2]∧
 ∃p2':HP,p2'=p2∧I1j6 ⟨[],[],[],[],[],[p2'],[]⟩) (
 ∃p2':HP,p2'=p1∧I1j6 ⟨[],[],[],[],[],[p2'],[]⟩))))∧
 ∀p2:HP,I1j6 ⟨[],[],[],[],[],[p2],[]⟩→
 Cl 14 [.pointer (some ⟨b2,0,none⟩)] [p2] fun x hs l=> ∃(x5 x6 x7 x8 x9:Int) (A16:Nat→Int) (q0:Bool),x= .tuple #[dV A16 x5 x6 x7 x8 x9,.bool q0]∧hs=l∧
 ∀_:Nat,∃I1j6:Ext→Prop,(
 (Cl 16 [.int .u64 5] [] fun x hs l=> ∃x10:Int,x= .agg #[.string ⟨(strD (srowF x10)).toArray⟩]∧hs=[]∧
 (Cl 16 [.int .u64 (A15 (Int.toNat x4))] [] fun x hs l=> ∃x11:Int,x= .agg #[.string ⟨(strD (srowF x11)).toArray⟩]∧hs=[]∧
 (Cl 15 [.agg #[.string ⟨(strD (srowF x10)).toArray⟩],.agg #[.string ⟨(strD (srowF x11)).toArray⟩]] [] fun x hs l=> ∃x12:Int,x= .agg #[.string ⟨(strD (srowF x12)).toArray⟩]∧hs=[]∧
 ∀b5:Nat,∃(b5':Nat) (x10':Int),b5'=b5∧b5'=b5∧((srowF x10')=(srowF x12))∧I1j6 ⟨[b5'],[],[x10'],[],[],[],[]⟩)∧
 (∀b5:Nat,Cl 15 [.agg #[.string ⟨(strD (srowF x10)).toArray⟩],.agg #[.string ⟨(strD (srowF x11)).toArray⟩]] [] fun x hs l=> ∃x12:Int,x= .agg #[.string ⟨(strD (srowF x12)).toArray⟩]∧hs=[]∧
 ∃(b5':Nat) (x10':Int),b5'=b5∧b5'=b5∧((srowF x10')=(srowF x12))∧I1j6 ⟨[b5'],[],[x10'],[],[],[],[]⟩))∧
 (∀b5:Nat,Cl 16 [.int .u64 (A15 (Int.toNat x4))] [] fun x hs l=> ∃x11:Int,x= .agg #[.string ⟨(strD (srowF x11)).toArray⟩]∧hs=[]∧
 Cl 15 [.agg #[.string ⟨(strD (srowF x10)).toArray⟩],.agg #[.string ⟨(strD (srowF x11)).toArray⟩]] [] fun x hs l=> ∃x12:Int,x= .agg #[.string ⟨(strD (srowF x12)).toArray⟩]∧hs=[]∧
 ∃(b5':Nat) (x10':Int),b5'=b5∧b5'=b5∧((srowF x10')=(srowF x12))∧I1j6 ⟨[b5'],[],[x10'],[],[],[],[]⟩))∧
 (∀b5:Nat,Cl 16 [.int .u64 5] [] fun x hs l=> ∃x10:Int,x= .agg #[.string ⟨(strD (srowF x10)).toArray⟩]∧hs=[]∧
 Cl 16 [.int .u64 (A15 (Int.toNat x4))] [] fun x hs l=> ∃x11:Int,x= .agg #[.string ⟨(strD (srowF x11)).toArray⟩]∧hs=[]∧
 Cl 15 [.agg #[.string ⟨(strD (srowF x10)).toArray⟩],.agg #[.string ⟨(strD (srowF x11)).toArray⟩]] [] fun x hs l=> ∃x12:Int,x= .agg #[.string ⟨(strD (srowF x12)).toArray⟩]∧hs=[]∧
 ∃(b5':Nat) (x10':Int),b5'=b5∧b5'=b5∧((srowF x10')=(srowF x12))∧I1j6 ⟨[b5'],[],[x10'],[],[],[],[]⟩))∧
 ∀(b5:Nat) (x10:Int),I1j6 ⟨[b5],[],[x10],[],[],[],[]⟩→
 Cl 17 [.pointer (some ⟨b2,0,none⟩),.int .u64 (A14 (Int.toNat x4)),.int .u64 (A15 (Int.toNat x4)),.agg #[.string ⟨(strD (srowF x10)).toArray⟩]] [p2] fun x hs l=> ∃x11 x12:Int,x= .tuple #[.agg #[.string ⟨(strD (srowF x11)).toArray⟩],.int .i64 x12]∧hs=l∧
 ∀_:Nat,Cl 18 [(.iface 135 (.pointer (some ⟨b1,0,none⟩))),.agg #[.string ⟨(strD (srowF x9)).toArray⟩],.int .u64 (A14 (Int.toNat x4))] [] fun x hs l=> ∃x13 x14:Int,x= .tuple #[.agg #[.string ⟨(strD (srowF x13)).toArray⟩],.int .i64 x14]∧hs=[]∧
 ∀_:Nat,Fork (¬(q0=true)) (
 Fork (¬(x12=6)) (
 Post (.bool false) []) (
 I64 (x4+1) ((
 ∃x4':Int,∃p1':HP,x4'=(x4+1)∧p1'=p2∧I0x2 ⟨[],[],[x4'],[],[],[p1'],[]⟩∧m0x2 ⟨[],[],[x4'],[],[],[p1'],[]⟩<m0x2 ⟨[],[],[x4],[],[],[p1],[]⟩)))) (
 Fork (64<(A14 (Int.toNat x4))) (
 Fork ((¬(x12=5))∨(¬(x14=5))) (
 Post (.bool false) []) (
 I64 (x4+1) ((
 ∃x4':Int,∃p1':HP,x4'=(x4+1)∧p1'=p2∧I0x2 ⟨[],[],[x4'],[],[],[p1'],[]⟩∧m0x2 ⟨[],[],[x4'],[],[],[p1'],[]⟩<m0x2 ⟨[],[],[x4],[],[],[p1],[]⟩)))) (
 ∀_:Nat,∃(I1x10:Ext→Prop) (m1x10:Ext→Nat),(∃x15 x16:Int,x15=0∧((srowF x16)=(srowF x9))∧I1x10 ⟨[],[],[x15,x16],[],[],[],[]⟩)∧
 ∀x15 x16:Int,I1x10 ⟨[],[],[x15,x16],[],[],[],[]⟩→
 Fork (x15<(A14 (Int.toNat x4))) (
 ∀b9:Nat,Cl 255 [.pointer (some ⟨b1,0,none⟩),.int .u8 10,.slice (some ⟨b9,0,none⟩) 1 1] [rowHP b9 true ([.string ⟨(strD (srowF x16)).toArray⟩])] fun x hs l=> ∃x17:Int,x= .agg #[.string ⟨(strD (srowF x17)).toArray⟩]∧hs=[]∧
 ∃x15' x16':Int,x15'=(IntKind.wrap .u64 (x15+1))∧((srowF x16')=(srowF x17))∧I1x10 ⟨[],[],[x15',x16'],[],[],[],[]⟩∧m1x10 ⟨[],[],[x15',x16'],[],[],[],[]⟩<m1x10 ⟨[],[],[x15,x16],[],[],[],[]⟩) (
 Fork (¬(((¬(x12=0))∨(¬(x14=0)))∨(¬(strD (srowF x13)=strD (srowF x16))))) (
 Cl 256 [.pointer (some ⟨b1,0,none⟩),.int .u64 (A15 (Int.toNat x4))] [] fun x hs l=> ∃x17:Int,x= .agg #[.string ⟨(strD (srowF x17)).toArray⟩]∧hs=[]∧
 ∀b9:Nat,Cl 255 [.pointer (some ⟨b1,0,none⟩),.int .u8 11,.slice (some ⟨b9,0,none⟩) 2 2] [rowHP b9 true ([.string ⟨(strD (srowF x16)).toArray⟩,.string ⟨(strD (srowF x17)).toArray⟩])] fun x hs l=> ∃x18:Int,x= .agg #[.string ⟨(strD (srowF x18)).toArray⟩]∧hs=[]∧
 Cl 19 [.agg #[.string ⟨(strD (srowF x18)).toArray⟩],.agg #[.string ⟨(strD (srowF x10)).toArray⟩]] [] fun x hs l=> ∃x19:Int,x= .agg #[.string ⟨(strD (srowF x19)).toArray⟩]∧hs=[]∧
 Fork (¬(strD (srowF x11)=strD (srowF x19))) (
 Post (.bool false) []) (
 Cl 20 [.pointer (some ⟨b2,0,none⟩),.agg #[.int .u8 x0,.int .u8 x1],.int .u64 x5,.int .u64 (A14 (Int.toNat x4)),.int .u64 (A15 (Int.toNat x4)),.agg #[.string ⟨(strD (srowF x11)).toArray⟩]] [p2] fun x hs l=> ∃x20 x21:Int,x= .tuple #[.agg #[.string ⟨(strD (srowF x20)).toArray⟩],.int .i64 x21]∧hs=l∧
 ∀_:Nat,Cl 20 [.pointer (some ⟨b2,0,none⟩),.agg #[.int .u8 x0,.int .u8 x1],.int .u64 x5,.int .u64 (A14 (Int.toNat x4)),.int .u64 (IntKind.wrap .u64 ((A15 (Int.toNat x4))+1)),.agg #[.string ⟨(strD (srowF x11)).toArray⟩]] [p2] fun x hs l=> ∃x22 x23:Int,x= .tuple #[.agg #[.string ⟨(strD (srowF x22)).toArray⟩],.int .i64 x23]∧hs=l∧
 ∀_:Nat,Cl 20 [.pointer (some ⟨b2,0,none⟩),.agg #[.int .u8 x0,.int .u8 x1],.int .u64 (IntKind.wrap .u64 (x5+1)),.int .u64 (A14 (Int.toNat x4)),.int .u64 (A15 (Int.toNat x4)),.agg #[.string ⟨(strD (srowF x11)).toArray⟩]] [p2] fun x hs l=> ∃x24 x25:Int,x= .tuple #[.agg #[.string ⟨(strD (srowF x24)).toArray⟩],.int .i64 x25]∧hs=l∧
 ∀_:Nat,Cl 20 [.pointer (some ⟨b2,0,none⟩),.agg #[.int .u8 x0,.int .u8 x1],.int .u64 x5,.int .u64 65,.int .u64 (A15 (Int.toNat x4)),.agg #[.string ⟨(strD (srowF x11)).toArray⟩]] [p2] fun x hs l=> ∃x26 x27:Int,x= .tuple #[.agg #[.string ⟨(strD (srowF x26)).toArray⟩],.int .i64 x27]∧hs=l∧
 ∀_:Nat,Fork (¬(((((¬(x21=0))∨(¬(strD (srowF x20)=strD (srowF x10))))∨(¬(x23=140)))∨(¬(x25=240)))∨(¬(x27=5)))) (
 Cl 21 [.int .u64 x5,.agg #[.int .u8 x0,.int .u8 x1]] [] fun x hs l=> ∃x28:Int,x= .int .u64 x28∧hs=[]∧
 Need ((¬(x28=x8))∨(true=true)) (
 Fork (x28=x8) (
 Cl 22 [.agg #[.int .u8 x0,.int .u8 x1]] [] fun x hs l=> ∃x29:Int,x= .int .u64 x29∧hs=[]∧
 Fork (¬(x29=(iop .rem .u64 x8 32))) (
 Post (.bool false) []) (
 I64 (x4+1) ((
 ∃x4':Int,∃p1':HP,x4'=(x4+1)∧p1'=p2∧I0x2 ⟨[],[],[x4'],[],[],[p1'],[]⟩∧m0x2 ⟨[],[],[x4'],[],[],[p1'],[]⟩<m0x2 ⟨[],[],[x4],[],[],[p1],[]⟩)))) (
 Post (.bool false) []))) (
 Post (.bool false) []))) (
 Post (.bool false) [])))))) (
 Post (.bool true) [])))
theorem mt_lawF(Post:PT)(x0 x1 x2:Int)(A0 A1 A2 A3 A4 A5 A6 A7 A8 A9 A10 A11 A12 A13 A14 A15:Nat→Int)(v0:V1)(h:st_lawF Post x0 x1 x2 A0 A1 A2 A3 A4 A5 A6 A7 A8 A9 A10 A11 A12 A13 A14 A15 v0):Meets Tryz.prog 3 [.agg #[.int .u8 x0,.int .u8 x1],v0.v] [sliHP false 40 46 v0.v (Int.toNat x2) (tabL (Int.toNat x2) [colI .u8 1 A0,colI .u32 1 A1,colI .u64 1 A2,colI .u8 16 A3,colI .u64 1 A4,colI .u8 16 A5,colI .u64 1 A6,colI .u8 1 A7,colI .u8 1 A8,colI .u64 1 A9,colI .u64 1 A10,colI .u8 1 A11,colI .u8 1 A12,colI .u64 1 A13,colI .u64 1 A14,colI .u64 1 A15])] Post:=
 mtK (C:=cxL) Hi.lawA Hi.lawHp Hi.lawCnt ⟨[x0,x1,x2],[A0,A1,A2,A3,A4,A5,A6,A7,A8,A9,A10,A11,A12,A13,A14,A15],[],[],[v0],[],[],[]⟩ 0 Tryz.func3 (by kernel_rfl) h
def st_pair(Post:PT)(x0 x1:Int):Prop:=
 ∀_ _ _ b3:Nat,Cl 61 [.int .u8 2,.slice none 0 0,.slice (some ⟨b3,0,none⟩) 2 2] [rowHP b3 true ([.string ⟨(strD (srowF x0)).toArray⟩,.string ⟨(strD (srowF x1)).toArray⟩])] fun x hs l=> ∃x2:Int,x= .agg #[.string ⟨(strD (srowF x2)).toArray⟩]∧hs=[]∧
 Post (.agg #[.string ⟨(strD (srowF x2)).toArray⟩]) []
theorem mt_pair(Post:PT)(x0 x1:Int)(h:st_pair Post x0 x1):Meets Tryz.prog 15 [.agg #[.string ⟨(strD (srowF x0)).toArray⟩],.agg #[.string ⟨(strD (srowF x1)).toArray⟩]] [] Post:=
 mtK (C:=cxP) [.agg [.strE (.srow (.var 0))],.agg [.strE (.srow (.var 1))]] [] ⟨0,0,2,0,0,0,0⟩ ⟨[x0,x1],[],[],[],[],[],[],[]⟩ 0 Tryz.func15 (by kernel_rfl) h
def st_place(Post:PT)(x0 x1:Int):Prop:=
 ∀_:Nat,Post (.int .u64 (IntKind.wrap .u64 ((IntKind.wrap .u64 ((IntKind.wrap .u64 x0)*4))+(IntKind.wrap .u64 x1)))) []
theorem mt_place(Post:PT)(x0 x1:Int)(h:st_place Post x0 x1):Meets Tryz.prog 22 [.agg #[.int .u8 x0,.int .u8 x1]] [] Post:=
 mtK (C:=cxP) [.agg [.int .u8 (.var 0),.int .u8 (.var 1)]] [] ⟨0,0,2,0,0,0,0⟩ ⟨[x0,x1],[],[],[],[],[],[],[]⟩ 0 Tryz.func22 (by kernel_rfl) h
end Go.RX.Ka

namespace Go.RX.Ka
open Go Go.RX Go.Proofs Go.Gp Go.RX.Gb Go.RX.Gf Go.RX.Gl Go.RX.Gu Go.RX.Gr Go.RX.Ha Go.RX.He Go.RX.Hi Go.RX.Ia Go.RX.Ja
theorem bld_app{c:UInt8}{d:List UInt8}{ps:List (List UInt8)}(h: ∀p∈ps,Enc p):bldB c d ps=c::(d++ps.flatten):=by
 unfold bldB;rw [if_neg fun h0=>absurd (enc_pos (h _ h0)) (by decide)]
theorem numB_eq(n:Nat):numB n=3::((beB 0++[8])++((beB n).map fun c=>3::(beB c.toNat++[0])).flatten):=rfl
theorem numB_inj{a b:Nat}(ha:a<18446744073709551616)(hb:b<18446744073709551616)(h:numB a=numB b):a=b:=by
 rw [numB_eq,numB_eq]at h;have hl:=List.append_cancel_left (List.cons.inj h).2;refine beB_inj ha hb ?_;obtain⟨x0,x1,x2,x3,x4,x5,x6,x7,hx⟩: ∃x0 x1 x2 x3 x4 x5 x6 x7,beB a=[x0,x1,x2,x3,x4,x5,x6,x7]:=⟨_,_,_,_,_,_,_,_,rfl⟩;obtain⟨y0,y1,y2,y3,y4,y5,y6,y7,hy⟩: ∃y0 y1 y2 y3 y4 y5 y6 y7,beB b=[y0,y1,y2,y3,y4,y5,y6,y7]:=⟨_,_,_,_,_,_,_,_,rfl⟩;rw [hx,hy]at hl ⊢;have e: ∀c:UInt8,UInt8.ofNat c.toNat=c:=fun c=>by simp
 have g: ∀j:Nat,(([x0,x1,x2,x3,x4,x5,x6,x7].map fun c=>3::(beB c.toNat++[0])).flatten).getD j 0=(([y0,y1,y2,y3,y4,y5,y6,y7].map fun c=>3::(beB c.toNat++[0])).flatten).getD j 0:=fun j=>by rw [hl]
 have g0:UInt8.ofNat x0.toNat=UInt8.ofNat y0.toNat:=g 8;have g1:UInt8.ofNat x1.toNat=UInt8.ofNat y1.toNat:=g 18;have g2:UInt8.ofNat x2.toNat=UInt8.ofNat y2.toNat:=g 28;have g3:UInt8.ofNat x3.toNat=UInt8.ofNat y3.toNat:=g 38;have g4:UInt8.ofNat x4.toNat=UInt8.ofNat y4.toNat:=g 48;have g5:UInt8.ofNat x5.toNat=UInt8.ofNat y5.toNat:=g 58;have g6:UInt8.ofNat x6.toNat=UInt8.ofNat y6.toNat:=g 68;have g7:UInt8.ofNat x7.toNat=UInt8.ofNat y7.toNat:=g 78;rw [e,e]at g0 g1 g2 g3 g4 g5 g6 g7;rw [g0,g1,g2,g3,g4,g5,g6,g7]
theorem lock_inj{p:List UInt8}(hp:Enc p){a b:Nat}(ha:a<18446744073709551616)(hb:b<18446744073709551616)(h:symB 11 [p,numB a]=symB 11 [p,numB b]):a=b:=by
 have hh: ∀n,∀q∈[hashB 1 [],p,numB n],Enc q:=fun n q hq=>by
  simp only [List.mem_cons,List.not_mem_nil,or_false]at hq;rcases hq with rfl | rfl | rfl
  ·exact enc_hashB 1 [] (fun _ h=>by cases h) (by decide)
  ·exact hp
  ·exact enc_numB n
 unfold symB hashB at h;have e1:=bld_app (c:=3) (d:=beB (11:UInt8).toNat++[UInt8.ofNat [hashB 1 [],p,numB a].length]) (hh a);have e2:=bld_app (c:=3) (d:=beB (11:UInt8).toNat++[UInt8.ofNat [hashB 1 [],p,numB b].length]) (hh b);have h':bldB 3 (beB (11:UInt8).toNat++[UInt8.ofNat [hashB 1 [],p,numB a].length]) [hashB 1 [],p,numB a]=bldB 3 (beB (11:UInt8).toNat++[UInt8.ofNat [hashB 1 [],p,numB b].length]) [hashB 1 [],p,numB b]:=h;rw [e1,e2]at h';have h2:=List.append_cancel_left (List.cons.inj h').2;simp only [List.flatten_cons,List.flatten_nil,List.append_nil]at h2;exact numB_inj ha hb (List.append_cancel_left (List.append_cancel_left h2))
theorem own_facts{n:Nat}{m:Me}(hw:Wf OkK n m)(hs:Sm m){d:Di}(h:ownOf m=some d):
  OkK d∧d.ep=m.ep∧1≤m.ep∧m.ep≤1099511627776∧d.kid=kidV m.ep m.sf.1 m.sf.2∧(∀z,keyAns z m m.sf m.ep=(d.key,0))∧∀z,keyAns z m m.sf (m.ep+1)=(z,240):=by
 have hso:m.so=true:=by
  cases hq:m.so
  ·rw [ownOf,if_neg (by rintro ⟨h,_⟩;rw [hq]at h;cases h)]at h;cases h
  ·rfl
 obtain⟨e1,e2⟩:=hs.ep hso;obtain⟨hA,hB⟩:=own_is okk_pos hw hs hso;by_cases hf:0≤findR m.held m.sf m.ep
 ·obtain⟨i,hi,hfi,ho⟩:=hA hf;obtain⟨i',hi',hfi',k1,k2,k3⟩:=findR_some hf;have hii:i=i':=by omega
  subst hii;rw [ho]at h;cases h;have hok:=hw.held _ (List.getElem_mem hi);refine⟨hok.2,k2,e1,e2,?_,fun z=>?_,fun z=>?_⟩
  ·rw [((mayD_iff _).1 hok.1.1).2.2.2.2,k2,←k1]
  ·simp only [keyAns,Gp.keyOf,k3,Option.map_some]
  ·have hno:(m.held.find? fun h=>decide ((h.d.sa,h.d.sd)=m.sf∧h.d.ep=m.ep+1))=none:=by
    rw [List.find?_eq_none];intro x hx hc;have h1:=(hw.held x hx).1.2;have h2:=(of_decide_eq_true hc).2;omega
   simp only [keyAns,Gp.keyOf,hno,Option.map_none];rw [if_neg (by rintro ⟨_,h⟩;omega)]
 ·rw [(hB hf).2]at h;cases h
def pairB(a b:List UInt8):List UInt8:=bldB 2 [] [a,b]
theorem pair_meets(k t:List UInt8)(hl:k.length+t.length≤100000000):Meets Tryz.prog 15 [tv k,tv t] [] fun r hs=>r=tv (pairB k t)∧hs=[]:=by
 have base:=mt_pair (fun r _=>r=tv (pairB k t)) ((sCode k:Nat):Int) ((sCode t:Nat):Int);rw [code_str,code_str]at base;refine(base ?_).post fun r hs h=>⟨[],Ent.sub (List.nil_sublist _),h,rfl⟩
 unfold st_pair;rw [code_str,code_str];intro _ _ _ b3;have hb:=build_meets 2 [] [k,t] nil1 ⟨.slice (some ⟨b3,0,none⟩) 2 2,rfl⟩ (by simp;omega) (by simp);refine⟨_,(hb.pre (pre:=[rowHP b3 true [strC k,strC t]]) ?_).post (q:=fun r hs=>r=tv (pairB k t)∧hs=[]) fun r hs h=>⟨[],Ent.sub (List.nil_sublist _),h.1,rfl⟩,fun x hs hq=>?_⟩
 ·have e1:=Ent.rowLook b3 33 2 [strC k,strC t] rfl (by show 2≤maxLen;unfold maxLen;omega);have e2:=Ent.front (A:=[sliHP false 33 1 (.slice (some ⟨b3,0,none⟩) 2 2) 2 [strC k,strC t]]) (Ent.trans (Ent.nilS 5 1) (Ent.lookS 5 1 0 _ _));exact Ent.trans e1 (Ent.trans e2 (Ent.perm (List.Perm.swap _ _ _)))
 ·obtain⟨rfl,rfl⟩:=hq;exact⟨((sCode (pairB k t):Nat):Int),by rw [code_str];rfl,rfl,by rw [code_str];rfl⟩
theorem enc_pairB{a b:List UInt8}(ha:Enc a)(hb:Enc b):Enc (pairB a b):=by
 have:pairB a b=2::(a++b):=by
  unfold pairB;rw [bld_app (fun p hp=>by
   simp only [List.mem_cons,List.not_mem_nil,or_false]at hp;rcases hp with rfl | rfl
   ·exact ha
   ·exact hb)]
  simp
 rw [this];exact Enc.two 2 a b (by decide) ha hb
theorem place_meets(s:Int×Int)(h:0≤s.1∧s.1<8∧0≤s.2∧s.2<4):Meets Tryz.prog 22 [.agg #[.int .u8 s.1,.int .u8 s.2]] [] fun r hs=>r= .int .u64 (4*s.1+s.2)∧hs=[]:=by
 refine(mt_place (fun r _=>r= .int .u64 (4*s.1+s.2)) s.1 s.2 ?_).post fun r hs h=>⟨[],Ent.sub (List.nil_sublist _),h,rfl⟩
 unfold st_place;intro _;show Value.int .u64 _=_;congr 1;rw [w64,w64,w64,w64];omega
end Go.RX.Ka
