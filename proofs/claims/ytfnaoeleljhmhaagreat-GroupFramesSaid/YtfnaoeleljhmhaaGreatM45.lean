/- GroupFrames over its walk. · A reflective symbolic executor: arguments that are slices of structs of integers and bools, structs within structs too. -/
import Derived.Test.YtfnaoeleljhmhaaGreatM44
import Derived.Test.YtfnaoeleljhmhaaGreatM28
import Derived.ChangeArms
import Derived.ChangeSame
import Derived.DataReads

namespace Go.RX.Ka
open Go Go.RX Go.Proofs Go.Gp Go.RX.Gb Go.RX.Gf Go.RX.Gl Go.RX.Gu Go.RX.Gr Go.RX.Ha Go.RX.He Go.RX.Hi Go.RX.Ia Go.RX.Ja
theorem ans_len{n:Nat}{m:Me}(hw:Wf OkK n m)(p:Int×Int)(ep:Int):(sDec (keyAns zC (m.kf kA) p ep).1).length≤1000000:=by
 have hk:Gp.keyOf (m.kf kA).held p ep=(Gp.keyOf m.held p ep).map kA:=keyOf_kf kA m.held p ep;unfold keyAns;rw [hk];cases Gp.keyOf m.held p ep with
 | none=>show(sDec zC).length≤_;rw [zC,sDec_code];exact Nat.zero_le _
 | some k=>show(sDec (kA k)).length≤_;rw [kA,keyC,sDec_code];show 9≤1000000;omega
theorem sDec_kA(k:Int):sDec (kA k)=atomB k.toNat:=by rw [kA,keyC,sDec_code]
theorem tvk(n:Nat):(Value.agg #[.string ⟨(strD (srowF (keyC n))).toArray⟩])=tv (atomB n):=by rw [tm_eq,keyC,sDec_code]
theorem tvs(p:List UInt8):(Value.agg #[.string ⟨(strD (srowF ((sCode p:Nat):Int))).toArray⟩])=tv p:=by rw [code_str];rfl
theorem frames_meets(s:Int×Int)(n:Nat)(A0 A1 A2 A3 A4 A5 A6 A7 A8 A9 A10 A11 A12 A13 A14 A15:Nat→Int)(v0:V1)(hk:Meets Tryz.prog 6 [] [] fun r hs=>r= .bool true∧hs=[])
  (hs1:0≤s.1∧s.1<256∧0≤s.2∧s.2<256) (hA: ∀j,j<n→(0≤A4 j∧A4 j<18446744073709551616)∧(0≤A7 j∧A7 j<256)∧(0≤A8 j∧A8 j<256)∧(0≤A10 j∧A10 j<18446744073709551616)∧0≤A14 j∧0≤A15 j∧A15 j<18446744073709551616):
  Meets Tryz.prog 3 [.agg #[.int .u8 s.1,.int .u8 s.2],v0.v] [sliHP false 40 46 v0.v n (tabL n [colI .u8 1 A0,colI .u32 1 A1,colI .u64 1 A2,colI .u8 16 A3,colI .u64 1 A4,colI .u8 16 A5,colI .u64 1 A6,colI .u8 1 A7,colI .u8 1 A8,colI .u64 1 A9,colI .u64 1 A10,colI .u8 1 A11,colI .u8 1 A12,colI .u64 1 A13,colI .u64 1 A14,colI .u64 1 A15])]
   fun r _=>r= .bool true:=by
 have base:=mt_lawF (fun r _=>r= .bool true) s.1 s.2 (n:Int) A0 A1 A2 A3 A4 A5 A6 A7 A8 A9 A10 A11 A12 A13 A14 A15 v0;rw [Int.toNat_natCast]at base;refine base ?_;obtain⟨Post,hPost⟩: ∃Post:PT,Post=fun r _=>r= .bool true:=⟨_,rfl⟩
 rw [←hPost];have pt: ∀hs,Post (.bool true) hs:=fun hs=>by rw [hPost]
 unfold st_lawF;intro _;refine⟨_,hk,fun x hs hq=>?_⟩;obtain⟨rfl,rfl⟩:=hq;refine⟨rfl,rfl,by omega,fun _=>⟨fun _=>pt _,fun h100=>?_⟩⟩;have hn:n≤100:=by omega
 have hsm:s.1<8∧s.2<4:=by omega
 refine⟨_,sym_meets 4294967296,fun x hs hq=>?_⟩;obtain⟨b1,rfl,rfl⟩:=hq;refine⟨b1,4294967296,rfl,rfl,?_⟩;refine⟨_,mp_new b1 s 4294967296,fun x hs hq=>?_⟩;obtain⟨b2,rfl,rfl⟩:=hq;refine⟨b2,_,rfl,rfl,?_⟩;refine⟨fun e=> ∃(i:Nat) (m:Me) (nx:Nat),e=⟨[],[],[(i:Int)],[],[],[MP b2 (m.kf kA) nx],[]⟩∧i≤n∧Inv s i m nx,fun x=>n - (x.i.getD 0 0).toNat,
  ⟨0,_,rfl,rfl,0,newM s,4294967296,rfl,Nat.zero_le _,inv_new s ⟨hs1.1,hs1.2.2.1⟩⟩,?_⟩
 rintro x4 p1 ⟨i,m,nx,he,hi,hI⟩;cases he;refine⟨fun hlt=>⟨by omega,fun _ _=>?_⟩,fun _=>pt _⟩;have hil:i<n:=by omega
 obtain⟨a1,a2,a3,a4,a14,a15⟩:=hA i hil;obtain⟨X,hX⟩: ∃X,X=dxOf A0 A1 A2 A3 A4 A5 A6 A7 A8 A9 A10 A11 A12 A13 A14 A15 i:=⟨_,rfl⟩;have hX1:X.g.length=16:=by simp [hX,dxOf]
 have hX2:X.d.g.length=16:=by simp [hX,dxOf]
 have hml:(ofM X.st).length≤32:=setM_len _ 32;have hdo:(Value.agg (.int .u8 (A0 i)::(.int .u32 (A1 i)::(.int .u64 (A2 i)::(List.append (segCells .u8 16 (shiftF A3 (i*16))) (.int .u64 (A4 i)::(List.append (segCells .u8 16 (shiftF A5 (i*16))) ([.int .u64 (A6 i),.int .u8 (A7 i),.int .u8 (A8 i),.int .u64 (A9 i),.int .u64 (A10 i),.int .u8 (A11 i),.int .u8 (A12 i),.int .u64 (A13 i),.int .u64 (A14 i),.int .u64 (A15 i)]))))))).toArray)= .agg (doC X).toArray:=by
  subst hX;unfold doC;rw [seg_at A3 i,seg_at A5 i];rfl
 have hrd:(Value.agg (List.append (segCells .u8 16 (shiftF A5 (i*16))) ([.int .u64 (A6 i),.int .u8 (A7 i),.int .u8 (A8 i),.int .u64 (A9 i),.int .u64 (A10 i)])).toArray)= .agg (rdC X.d).toArray:=by
  subst hX;unfold rdC;rw [seg_at A5 i];rfl
 have hnow:A4 i=X.now:=by rw [hX];rfl
 have hdk:OkK X.d:=by rw [hX]at hX2 ⊢;exact⟨⟨hX2,a2.1,a2.2,a3.1,a3.2⟩,a4.1,a4.2⟩
 rw [Int.toNat_natCast,show((i:Int)*16).toNat=i*16 by omega,hdo,hrd,hnow];refine⟨fun e=> ∃(m':Me) (nx':Nat),e=⟨[],[],[],[],[],[MP b2 (m'.kf kA) nx'],[]⟩∧Inv s (i+1) m' nx',?_,?_⟩
 ·have hsf:=hI.sf;have hnx:=hI.nx;have ho:OkK (ownD m X.g X.ep nx):=by
   refine⟨⟨hX1,?_,?_,?_,?_⟩,by show(0:Int)≤nx;omega,by show(nx:Int)<_;omega⟩
   ·show 0≤m.sf.1;rw [hsf];exact hs1.1
   ·show m.sf.1<256;rw [hsf];exact hs1.2.1
   ·show 0≤m.sf.2;rw [hsf];exact hs1.2.2.1
   ·show m.sf.2<256;rw [hsf];exact hs1.2.2.2
  refine⟨fun _=>?_,fun _=>⟨fun _=>?_,fun _=>⟨fun _=>?_,fun _=>⟨_,rfl,m,nx,rfl,inv_same hI⟩⟩⟩⟩
  ·refine⟨_,of_meets X,fun x hs hq=>?_⟩;obtain⟨u,rfl,rfl⟩:=hq;refine⟨u,X.ep,((ofM X.st).length:Int),fun j=>X.g.getD j 0,pF (ofM X.st) (·.1),pF (ofM X.st) (·.2),rfl,by rw [dK_dev],?_⟩;rw [dK_dev];refine⟨_,mp_enter b2 m u X.g X.ep X.now nx (ofM X.st) i hI.wf (by omega) hI.g hX1 hml (by omega) ho,fun x hs hq=>?_⟩;obtain⟨uo,rfl,rfl⟩:=hq;have hout:=oK_is (v:=uo) (own_cols (enter m X.g X.ep (ofM X.st) X.now nx).2.2.1 ((ownD m X.g X.ep nx).kf kA));refine⟨uo,_,_,_,_,_,_,_,_,_,_,_,rfl,by rw [←hout],_,rfl,_,_,rfl,inv_enter hI X.g X.ep (ofM X.st) X.now hX1 ho⟩
  ·refine⟨_,real_meets X.d hdk.2.1,fun x hs hq=>?_⟩;obtain⟨rfl,rfl⟩:=hq;refine⟨X.d.ep,X.d.sa,X.d.sd,X.d.kid,kA X.d.key,fun t=>X.d.g.getD t 0,(dV_eq (X.d.kf kA)).symm,rfl,?_⟩;rw [show dV (fun t=>X.d.g.getD t 0) X.d.ep X.d.sa X.d.sd X.d.kid (kA X.d.key)= .agg (diC (X.d.kf kA)).toArray from dV_eq (X.d.kf kA)];refine⟨_,mp_take b2 m nx X.d i hI.wf (by omega) hI.g hdk,fun x hs hq=>?_⟩;obtain⟨rfl,rfl⟩:=hq;exact⟨_,_,rfl,rfl,_,rfl,took m X.d,nx,rfl,inv_took hI hdk⟩
  ·refine⟨_,mp_tick b2 m nx X.now i hI.wf (by omega),fun x hs hq=>?_⟩;obtain⟨rfl,rfl⟩:=hq;exact⟨_,rfl,rfl,_,rfl,tkm m X.now,nx,rfl,inv_tick hI _⟩
 clear hI;rintro p2 ⟨m,nx,he,hI⟩;cases he;obtain⟨N,hN⟩: ∃N:Nat,A15 i=N:=⟨(A15 i).toNat,by omega⟩;obtain⟨G,hG⟩: ∃G:Nat,A14 i=G:=⟨(A14 i).toNat,by omega⟩;rw [hN,hG];have ho:=mp_own b2 m nx (i+1) hI.wf (by omega);rw [ownOf_kf]at ho;refine⟨_,ho,fun x hs hq=>?_⟩;obtain⟨rfl,rfl⟩:=hq;obtain⟨o,hoo⟩: ∃o,o=((ownOf m).map (Di.kf kA)).getD zDi:=⟨_,rfl⟩;refine⟨o.ep,o.sa,o.sd,o.kid,o.key,fun j=>o.g.getD j 0,((ownOf m).map (Di.kf kA)).isSome,by rw [dV_eq,hoo],rfl,?_⟩;intro _;obtain⟨T,hT⟩: ∃T,T=pairB (atomB 5) (atomB N):=⟨_,rfl⟩;have hTe:Enc T:=by rw [hT];exact enc_pairB (enc_atomB 5) (enc_atomB N)
 have hTl:T.length≤100:=by
  rw [hT];have h:=flat_bld 2 [] [atomB 5,atomB N];have h':(pairB (atomB 5) (atomB N)).length≤1+0+18:=h;omega
 have pm:=pair_meets (atomB 5) (atomB N) (by show 9+9≤_;omega);rw [←hT]at pm;refine⟨fun e=> ∃b,e=⟨[b],[],[((sCode T:Nat):Int)],[],[],[],[]⟩,?_,?_⟩
 ·refine⟨⟨_,atom_meets 5,fun x hs hq=>?_⟩,fun b5=>⟨_,atom_meets 5,fun x hs hq=>?_⟩⟩
  ·obtain⟨rfl,rfl⟩:=hq;refine⟨keyC 5,by simp only [srowF,strD_rowS,tmV],rfl,⟨_,atom_meets N,fun x hs hq=>?_⟩,fun b5=>⟨_,atom_meets N,fun x hs hq=>?_⟩⟩
   ·obtain⟨rfl,rfl⟩:=hq;refine⟨keyC N,by simp only [srowF,strD_rowS,tmV],rfl,?_⟩;rw [tvk,tvk];refine⟨⟨_,pm,fun x hs hq=>?_⟩,fun b5=>⟨_,pm,fun x hs hq=>?_⟩⟩
    ·obtain⟨rfl,rfl⟩:=hq;exact⟨((sCode T:Nat):Int),by rw [tvs],rfl,fun b5=>⟨_,_,rfl,rfl,rfl,b5,rfl⟩⟩
    ·obtain⟨rfl,rfl⟩:=hq;exact⟨((sCode T:Nat):Int),by rw [tvs],rfl,_,_,rfl,rfl,rfl,b5,rfl⟩
   ·obtain⟨rfl,rfl⟩:=hq;refine⟨keyC N,by simp only [srowF,strD_rowS,tmV],rfl,?_⟩;rw [tvk,tvk];refine⟨_,pm,fun x hs hq=>?_⟩;obtain⟨rfl,rfl⟩:=hq;exact⟨((sCode T:Nat):Int),by rw [tvs],rfl,_,_,rfl,rfl,rfl,b5,rfl⟩
  ·obtain⟨rfl,rfl⟩:=hq;refine⟨keyC 5,by simp only [srowF,strD_rowS,tmV],rfl,_,atom_meets N,fun x hs hq=>?_⟩;obtain⟨rfl,rfl⟩:=hq;refine⟨keyC N,by simp only [srowF,strD_rowS,tmV],rfl,?_⟩;rw [tvk,tvk];refine⟨_,pm,fun x hs hq=>?_⟩;obtain⟨rfl,rfl⟩:=hq;exact⟨((sCode T:Nat):Int),by rw [tvs],rfl,_,_,rfl,rfl,rfl,b5,rfl⟩
 rintro b5 x10 ⟨b,he⟩;cases he;have next: ∃(x4':Int) (p1':HP),x4'=(i:Int)+1∧p1'=MP b2 (m.kf kA) nx∧(∃(i:Nat) (m:Me) (nx:Nat),(⟨[],[],[x4'],[],[],[p1'],[]⟩:Ext)=⟨[],[],[(i:Int)],[],[],[MP b2 (m.kf kA) nx],[]⟩∧i≤n∧Inv s i m nx)∧n - (([x4']:List Int).getD 0 0).toNat<n - (([(i:Int)]:List Int).getD 0 0).toNat:=
  ⟨_,_,rfl,rfl,⟨i+1,m,nx,rfl,by omega,hI⟩,by simp only [List.getD_cons_zero];omega⟩
 rw [tvs];have hfr:=mp_frame b2 m nx G N T (i+1) hI.wf (by omega) (by omega);rw [ownOf_kf]at hfr;obtain⟨FV,hFV⟩: ∃FV,FV=frameV ((ownOf m).map (Di.kf kA)) G N T:=⟨_,rfl⟩;rw [←hFV]at hfr;refine⟨_,hfr,fun x hs hq=>?_⟩;obtain⟨rfl,rfl⟩:=hq;refine⟨((sCode FV.1:Nat):Int),FV.2,by rw [tvs],rfl,?_⟩;intro _;rw [tm_eq o.key];have hol:(sDec o.key).length≤1000000:=by
  rw [hoo];cases ownOf m with
  | none=>show(sDec zC).length≤_;rw [zC,sDec_code];exact Nat.zero_le _
  | some d=>show(sDec (kA d.key)).length≤_;rw [sDec_kA];show 9≤1000000;omega
 refine⟨_,step_meets b1 (sDec o.key) G hol,fun x hs hq=>?_⟩;obtain⟨rfl,rfl⟩:=hq;refine⟨((sCode (if 64<G then []else stepB (sDec o.key) G):Nat):Int),(if 64<G then 5 else 0),by rw [tvs],rfl,?_⟩;intro _;cases hown:ownOf m with
 | none=>
  rw [hown]at hFV;have h6:FV.2=6:=by rw [hFV];rfl
  refine⟨fun _=>⟨fun h=>absurd h6 h,fun _=>⟨by omega,fun _=>⟨by omega,fun _=>next⟩⟩⟩,fun h=>absurd (by simp) h⟩
 | some d=>
  rw [hown]at hFV hoo;have hoo:o=d.kf kA:=hoo;subst hoo;refine⟨fun h=>absurd rfl h,fun _=>?_⟩;obtain⟨f1,f2,f3,f4,f5,f6,f7⟩:=own_facts hI.wf hI.sm hown;have hkey:sDec (Di.kf kA d).key=atomB d.key.toNat:=sDec_kA d.key;obtain⟨K,hK⟩: ∃K,K=sDec (Di.kf kA d).key:=⟨_,rfl⟩;have hKe:Enc K:=by rw [hK,hkey];exact enc_atomB _
  rw [←hK]at hol;rw [code_str,←hK];by_cases hg:64<G
  ·have h5:FV.2=5:=by
    have:lockV (sDec (Di.kf kA d).key) G N=([],5):=by rw [lockV,if_pos hg]
    rw [hFV];simp only [Option.map_some,frameV,this];rfl
   refine⟨fun _=>⟨fun h=>absurd h (fun h=>h.elim (fun h=>h h5) fun h=>h (by rw [if_pos hg])),fun _=>⟨by omega,fun _=>⟨by omega,fun _=>next⟩⟩⟩,fun h=>absurd (by omega) h⟩
  refine⟨fun h=>absurd h (by omega),fun _=>?_⟩;rw [if_neg hg,if_neg hg];obtain⟨L,hL⟩: ∃L:Nat→List UInt8,L=fun n=>symB 11 [stepB K G,numB n]:=⟨_,rfl⟩
  have hlock: ∀n,lockV K G n=(L n,0):=fun n=>by rw [lockV,if_neg hg,hL]
  have hFV2:FV=(bldB 4 [] [L N,T],0):=by
   rw [hFV];simp only [Option.map_some,frameV,←hK,hlock,if_true]
  have hLe: ∀n,Enc (L n):=fun n=>by rw [hL];exact enc_lock hKe G n
  have hLl: ∀n,(L n).length≤2000000:=fun n=>by have:=lockV_len K G n hol;rw [hlock]at this;exact this
  rw [hFV2];intro _;have hst:=fun k=>stepB_len K k
  refine⟨fun e=> ∃k:Nat,e=⟨[],[],[(k:Int),((sCode (stepB K k):Nat):Int)],[],[],[],[]⟩∧k≤G,fun x=>G - (x.i.getD 0 0).toNat,⟨_,_,rfl,?_,0,rfl,Nat.zero_le _⟩,?_⟩
  ·show srowF ((sCode K:Nat):Int)=srowF (Di.kf kA d).key;rw [srow_code,hK,srowF]
  rintro x15 x16 ⟨k,he,hkG⟩;cases he;rw [code_str (stepB K k)];have hsk:=hst k;refine⟨fun hlt b9=>?_,fun hge=>?_⟩
  ·have hm:=shash_meets b1 10 [stepB K k] ⟨.slice (some ⟨b9,0,none⟩) 1 1,rfl⟩ (by simp) (by simp;omega);refine⟨_,hm.pre (Ent.rowLook b9 33 1 [strC (stepB K k)] rfl (by show 1≤maxLen;unfold maxLen;omega)),fun x hs hq=>?_⟩;obtain⟨rfl,rfl⟩:=hq;refine⟨((sCode (stepB K (k+1)):Nat):Int),by rw [tvs];rfl,rfl,_,_,rfl,rfl,⟨k+1,?_,by omega⟩,?_⟩
   ·rw [w64];congr 2;omega
   ·simp only [List.getD_cons_zero];rw [w64];omega
  have hkG2:k=G:=by omega
  subst hkG2;refine⟨fun _=>?_,fun h=>absurd (fun h=>h.elim (fun h=>h.elim (fun h=>h rfl) fun h=>h rfl) fun h=>h rfl) h⟩;refine⟨_,num_meets b1 N,fun x hs hq=>?_⟩;obtain⟨rfl,rfl⟩:=hq;refine⟨((sCode (numB N):Nat):Int),by rw [tvs],rfl,?_⟩;rw [code_str (numB N)];intro b9;have hnl:=numB_len N;have hm2:=shash_meets b1 11 [stepB K k,numB N] ⟨.slice (some ⟨b9,0,none⟩) 2 2,rfl⟩ (by simp) (by simp;omega);refine⟨_,hm2.pre (Ent.rowLook b9 33 2 [strC (stepB K k),strC (numB N)] rfl (by show 2≤maxLen;unfold maxLen;omega)),fun x hs hq=>?_⟩;obtain⟨rfl,rfl⟩:=hq;have hLN:symB 11 [stepB K k,numB N]=L N:=by rw [hL]
  rw [hLN];refine⟨((sCode (L N):Nat):Int),by rw [tvs],rfl,?_⟩;rw [tvs];have hLN1:=hLl N;refine⟨_,seal_meets (L N) T (by omega),fun x hs hq=>?_⟩;obtain⟨rfl,rfl⟩:=hq;obtain⟨F,hF⟩: ∃F,F=bldB 4 [] [L N,T]:=⟨_,rfl⟩;rw [←hF];refine⟨((sCode F:Nat):Int),by rw [tvs],rfl,fun h=>absurd rfl h,fun _=>?_⟩;have hsf:=hI.sf;have un: ∀(ep:Int) (g n:Nat),Meets Tryz.prog 20 [.pointer (some ⟨b2,0,none⟩),.agg #[.int .u8 s.1,.int .u8 s.2],.int .u64 ep,.int .u64 (g:Int),.int .u64 (n:Int),tv F] [MP b2 (m.kf kA) nx]
    fun r hs=>r= .tuple #[tv (unframeV (keyAns zC (m.kf kA) s ep) g n (L N) T).1,.int .i64 (unframeV (keyAns zC (m.kf kA) s ep) g n (L N) T).2]∧hs=[MP b2 (m.kf kA) nx]:=fun ep g n=>by
   rw [hF];exact mp_unframe b2 m nx s ep g n (L N) T (i+1) hI.wf (by omega) (ans_len hI.wf s ep) (hLe N) hTe (by omega)
  have kr:=fun ep=>key_relW hI.wf s ep
  have ans1:keyAns zC (m.kf kA) s (Di.kf kA d).ep=(kA d.key,0):=by
   obtain⟨q1,q2⟩:=kr m.ep;rw [←hsf,f6 0]at q1 q2;rw [show(Di.kf kA d).ep=m.ep from f2,←hsf];exact Prod.ext (q2 rfl) q1
  have ans2:(keyAns zC (m.kf kA) s (m.ep+1)).2=240:=by
   rw [(kr (m.ep+1)).1,←hsf,f7 0]
  have hK2:sDec (kA d.key)=K:=by rw [hK];rfl
  have u1:unframeV (keyAns zC (m.kf kA) s (Di.kf kA d).ep) k N (L N) T=(T,0):=by
   rw [ans1];simp only [unframeV,hK2,hlock,if_true]
  obtain⟨N',hN'⟩: ∃N':Nat,N'=(N+1)%18446744073709551616:=⟨_,rfl⟩;have hwr:IntKind.wrap .u64 ((N:Int)+1)=(N':Int):=by rw [w64,hN'];omega
  have hne:L N≠L N':=fun h=>by
   have:=lock_inj (enc_stepB hKe k) (a:=N) (b:=N') (by omega) (by omega) (by rw [hL]at h;exact h);omega
  have u2:(unframeV (keyAns zC (m.kf kA) s (Di.kf kA d).ep) k N' (L N) T).2=140:=by
   rw [ans1];simp only [unframeV,hK2,hlock,if_true,if_neg hne]
  have u3:(unframeV (keyAns zC (m.kf kA) s (m.ep+1)) k N (L N) T).2=240:=by
   simp only [unframeV];rw [if_neg (by rw [ans2];decide)];exact ans2
  have u4:(unframeV (keyAns zC (m.kf kA) s (Di.kf kA d).ep) 65 N (L N) T).2=5:=by
   rw [ans1];have:lockV (sDec (kA d.key)) 65 N=([],5):=rfl;simp only [unframeV,this,if_true];rfl
  have hep:(Di.kf kA d).ep=m.ep:=f2;rw [tvs,hwr,show IntKind.wrap .u64 ((Di.kf kA d).ep+1)=m.ep+1 by rw [w64,hep];omega];have c1:=un (Di.kf kA d).ep k N;rw [u1]at c1;refine⟨_,c1,fun x hs hq=>?_⟩;obtain⟨rfl,rfl⟩:=hq;refine⟨((sCode T:Nat):Int),0,by rw [tvs],rfl,?_⟩;intro _;have go: ∀(ep:Int) (g n:Nat) (z:Int),(unframeV (keyAns zC (m.kf kA) s ep) g n (L N) T).2=z→Meets Tryz.prog 20 [.pointer (some ⟨b2,0,none⟩),.agg #[.int .u8 s.1,.int .u8 s.2],.int .u64 ep,.int .u64 (g:Int),.int .u64 (n:Int),tv F] [MP b2 (m.kf kA) nx]
    fun r hs=>r= .tuple #[tv (unframeV (keyAns zC (m.kf kA) s ep) g n (L N) T).1,.int .i64 z]∧hs=[MP b2 (m.kf kA) nx]:=fun ep g n z hz=>by
   have:=un ep g n;rw [hz]at this;exact this
  refine⟨_,go _ k N' 140 u2,fun x hs hq=>?_⟩;obtain⟨rfl,rfl⟩:=hq;refine⟨((sCode (unframeV (keyAns zC (m.kf kA) s (Di.kf kA d).ep) k N' (L N) T).1:Nat):Int),140,by rw [tvs],rfl,?_⟩;intro _;refine⟨_,go _ k N 240 u3,fun x hs hq=>?_⟩;obtain⟨rfl,rfl⟩:=hq;refine⟨((sCode (unframeV (keyAns zC (m.kf kA) s (m.ep+1)) k N (L N) T).1:Nat):Int),240,by rw [tvs],rfl,?_⟩;intro _;refine⟨_,go _ 65 N 5 u4,fun x hs hq=>?_⟩;obtain⟨rfl,rfl⟩:=hq;refine⟨((sCode (unframeV (keyAns zC (m.kf kA) s (Di.kf kA d).ep) 65 N (L N) T).1:Nat):Int),5,by rw [tvs],rfl,?_⟩;intro _;refine⟨fun _=>?_,fun h=>absurd (fun h=>h.elim (fun h=>h.elim (fun h=>h.elim (fun h=>h.elim (fun h=>h rfl) fun h=>h rfl) fun h=>h rfl) fun h=>h rfl) fun h=>h rfl) h⟩;refine⟨_,kid_meets (Di.kf kA d).ep s.1 s.2,fun x hs hq=>?_⟩;obtain⟨rfl,rfl⟩:=hq;have hkd:(Di.kf kA d).kid=kidV m.ep s.1 s.2:=by rw [←hsf];exact f5
  refine⟨_,rfl,rfl,.inr rfl,fun _=>⟨fun _=>?_,fun h=>absurd (by rw [hkd,hep]) h⟩⟩;refine⟨_,place_meets s ⟨hs1.1,hsm.1,hs1.2.2.1,hsm.2⟩,fun x hs hq=>?_⟩;obtain⟨rfl,rfl⟩:=hq;refine⟨_,rfl,rfl,fun h=>absurd ?_ h,fun _=>⟨by omega,fun _=>⟨by omega,fun _=>next⟩⟩⟩;rw [hkd,kidV_of f3 f4 hs1.1 hsm.1 hs1.2.2.1 hsm.2];simp only [iop];rw [Int.tmod_eq_emod_of_nonneg (by omega)];omega
end Go.RX.Ka

namespace Go.RX
def flatF(P:Program)(g:TypeId→Option (List (Option IntKind))):List Field→Nat→Option (List (Option IntKind))
 | [],_=>some []
 | f::r,off=>match g f.type,flatF P g r (off+P.cellsOf f.type)with
  | some ks,some l=>if f.offset=off∧P.cellsOf f.type=ks.length then some (ks++l)else none
  | _,_=>none
def cellV:Option IntKind→Int→Value
 | some k,n=> .int k n
 | none,n=> .bool (!(n==0))
def cellWf:Option IntKind→Int→Prop
 | some k,n=>(Lit.int k n).wf=true
 | none,_=>True
def CellOk(k:Option IntKind)(v:Value):Prop:= ∃n,v=cellV k n∧cellWf k n
section
variable {H:Type} {enc:TypeId×Value→H} {P:Program} {w:World} {base:Nat} {spare:Nat→Bool} {held:Bool}
theorem flatF_trod{g:TypeId→Option (List (Option IntKind))}{cs:List Value}(hg: ∀t ks cs',g t=some ks→(∃n x,DataW.trod enc P w base spare held n t cs'=some x)→∀(j:Nat) k,ks[j]? =some k→∃v,cs'[j]? =some v∧CellOk k v):
  ∀{fs:List Field} {off:Nat} {ks:List (Option IntKind)},flatF P g fs off=some ks→(∀f∈fs,∃n x,DataW.trod enc P w base spare held n f.type ((cs.drop f.offset).take (P.cellsOf f.type))=some x)→
   ∀(j:Nat) k,ks[j]? =some k→∃v,cs[off+j]? =some v∧CellOk k v
 | [],off,ks,h,_,j,k,hk=>by
  simp only [flatF,Option.some.injEq]at h;subst h;simp at hk
 | f::r,off,ks,h,hf,j,k,hk=>by
  unfold flatF at h;split at h
  ·rename_i k1 l h1 h2;split at h
   ·rename_i hc;obtain⟨rfl,hc2⟩:=hc;cases h;by_cases hj:j<k1.length
    ·rw [List.getElem?_append_left hj]at hk;obtain⟨v,hv,hok⟩:=hg _ _ _ h1 (hf f List.mem_cons_self) j k hk;refine⟨v,?_,hok⟩;rw [List.getElem?_take]at hv;split at hv
     ·rw [List.getElem?_drop]at hv;exact hv
     ·cases hv
    ·rw [List.getElem?_append_right (by omega)]at hk;obtain⟨v,hv,hok⟩:=flatF_trod hg h2 (fun f' hf'=>hf f' (List.mem_cons_of_mem _ hf')) _ k hk;refine⟨v,?_,hok⟩;rw [←hv,hc2];congr 1;omega
   ·cases h
  ·cases h
end
def IsTab(ks:List (Option IntKind))(w:World)(a:Option Addr)(len cap:Nat)(F:Nat→Nat→Int):Prop:=
 (a=none∧len=0∧cap=0)∨
 ∃x,a=some x∧len≤cap∧cap≤maxLen∧∀i,i<len→∀(j:Nat) k,ks[j]? =some k→w.cell? (x.add (i*ks.length+j))=some (cellV k (F i j))∧cellWf k (F i j)
def colOf(k:Option IntKind)(f:Nat→Int):Nat→List Value:=
 match k with
 | some k=>colI k 1 f
 | none=>colB 1 f
theorem colOf_eq(k:Option IntKind)(f:Nat→Int)(i:Nat):colOf k f i=[cellV k (f i)]:=by
 cases k<;>simp [colOf,colI,colB,segCells,cellV]
def colsOfTab:List (Option IntKind)→(Nat→Nat→Int)→List (Nat→List Value)
 | [],_=>[]
 | k::r,F=>colOf k (fun i=>F i 0)::colsOfTab r fun i j=>F i (j+1)
theorem colsOfTab_at: ∀{ks:List (Option IntKind)} {F:Nat→Nat→Int} {i:Nat},((colsOfTab ks F).flatMap fun c=>c i).length=ks.length∧∀(j:Nat) u,((colsOfTab ks F).flatMap fun c=>c i)[j]? =some u→∃k,ks[j]? =some k∧u=cellV k (F i j)
 | [],F,i=>⟨rfl,fun j u h=>by simp [colsOfTab]at h⟩
 | k::r,F,i=>by
  obtain⟨h1,h2⟩:=colsOfTab_at (ks:=r) (F:=fun i j=>F i (j+1)) (i:=i);simp only [colsOfTab,List.flatMap_cons,colOf_eq,List.singleton_append];refine⟨by simp only [List.length_cons,h1],fun j u h=>?_⟩;cases j with
  | zero=>simp at h;exact⟨k,rfl,h.symm⟩
  | succ j=>exact h2 j u (by simpa using h)
theorem tab_at{ks:List (Option IntKind)}{F:Nat→Nat→Int}: ∀{n:Nat},(tabL n (colsOfTab ks F)).length=n*ks.length∧∀(m:Nat) u,(tabL n (colsOfTab ks F))[m]? =some u→∃i j k,i<n∧ks[j]? =some k∧m=i*ks.length+j∧u=cellV k (F i j)
 | 0=>⟨by simp [tabL],fun m u h=>by simp [tabL]at h⟩
 | n+1=>by
  obtain⟨h1,h2⟩:=tab_at (ks:=ks) (F:=F) (n:=n);have e:tabL (n+1) (colsOfTab ks F)=tabL n (colsOfTab ks F)++(colsOfTab ks F).flatMap fun c=>c n:=by
   simp [tabL,List.range_succ,List.flatMap_append]
  obtain⟨h3,h4⟩:=colsOfTab_at (ks:=ks) (F:=F) (i:=n);rw [e];refine⟨by rw [List.length_append,h1,h3,Nat.succ_mul],fun m u h=>?_⟩;by_cases hm:m<(tabL n (colsOfTab ks F)).length
  ·rw [List.getElem?_append_left hm]at h;obtain⟨i,j,k,q1,q2,q3,q4⟩:=h2 m u h;exact⟨i,j,k,by omega,q2,q3,q4⟩
  ·rw [List.getElem?_append_right (by omega)]at h;obtain⟨k,q1,q2⟩:=h4 _ u h;refine⟨n,_,k,by omega,q1,?_,q2⟩;rw [h1]at hm ⊢;omega
theorem owns_tab{ks:List (Option IntKind)}{w:World}{a:Option Addr}{len cap:Nat}{F:Nat→Nat→Int}(h:IsTab ks w a len cap F)(hk:0<ks.length)(t:Nat):
  Owns ([sliHP false t ks.length (.slice a len cap) len (tabL len (colsOfTab ks F))]++[keptHP w.heap.size w]) w:=by
 have hk0: ∃k,ks[0]? =some k:=⟨_,List.getElem?_eq_getElem hk⟩;obtain⟨k0,hk0⟩:=hk0;have h1:(sliHP false t ks.length (.slice a len cap) len (tabL len (colsOfTab ks F))).p w (fun b=>(Value.slice a len cap).ownBlock=some b∧0<len):=by
  refine⟨?_,fun b=>by simp⟩;simp only [Bool.false_eq_true,if_false];refine⟨tab_at.1,a,len,cap,rfl,rfl,?_,?_,?_⟩
  ·rcases h with⟨_,rfl,rfl⟩ | ⟨x,_,h,_⟩
   ·exact Nat.le_refl _
   ·exact h
  ·rintro rfl;rcases h with⟨_,h,_⟩ | ⟨x,h,_⟩
   ·exact h
   ·cases h
  ·rintro ad rfl;rcases h with⟨h,_⟩ | ⟨x,h,hl,_,hc⟩
   ·cases h
   ·cases h;constructor
    ·intro hpos;have h0:=(hc 0 hpos 0 k0 hk0).1;rw [Nat.zero_mul,Nat.zero_add,addr_add_zero]at h0;exact World.cell?_spot h0
    ·intro j u hu;obtain⟨i,j',k,q1,q2,rfl,rfl⟩:=tab_at.2 j u hu;exact(hc i q1 j' k q2).1
 have h2: ∀b,(Value.slice a len cap).ownBlock=some b∧0<len→b<w.heap.size:=by
  rintro b ⟨hb,hpos⟩;rcases h with⟨rfl,rfl,_⟩ | ⟨x,rfl,hl,_,hc⟩
  ·omega
  ·simp only [Value.ownBlock,Option.some.injEq]at hb;subst hb;have:=World.block_lt_of_cell? w _ (hc 0 hpos 0 k0 hk0).1;rw [Nat.zero_mul,Nat.zero_add,addr_add_zero]at this;exact this
 refine⟨fun i b=>if i=0 then(Value.slice a len cap).ownBlock=some b∧0<len else b<w.heap.size,⟨?_,?_⟩⟩
 ·intro i hp hi
  match i,hi with
  | 0,hi=>simp at hi;subst hi;exact⟨h1,h2⟩
  | 1,hi=>simp at hi;subst hi;exact⟨⟨fun _=>Iff.rfl,fun _ _=>rfl⟩,fun _ h=>h⟩
  | i+2,hi=>simp at hi
 ·intro i j x y hne hi hj hwr;exfalso;have key: ∀(i:Nat) (x:HP),([sliHP false t ks.length (.slice a len cap) len (tabL len (colsOfTab ks F))]++[keptHP w.heap.size w])[i]? =some x→x.wr=false:=by
   intro i x hi
   match i,hi with
   | 0,hi=>simp at hi;subst hi;rfl
   | 1,hi=>simp at hi;subst hi;rfl
   | i+2,hi=>simp at hi
  rw [key i x hi,key j y hj]at hwr;simp at hwr
end Go.RX
