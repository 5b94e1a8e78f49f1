/- The plain state. -/
import Derived.Test.YtllcdnkfbeokhaaGreatM31
open Bool renaming and_eq_true → ai
open Go.IntKind renaming wrap → ae
open Go.Proofs.Tryz renaming prog → auN
open Int renaming toNat → ag
open List renaming append → aul
open Option.some renaming injEq → auq
namespace Go.RX
def F.leaf(ok:SV→List Ck→Bool):F→List Bool→Bool
 | .vc b r,p=>b.sure&&r.leaf ok p
 | .fork c t e,p=>match c.ur with
  | some true=>t.leaf ok p
  | some false=>e.leaf ok p
  | none=>match p with
   | []=>t.leaf ok []&&e.leaf ok []
   | false::p=>t.leaf ok p
   | true::p=>e.leaf ok p
 | .ret u hp,_=>ok u hp
 | .DB r,p=>r.leaf ok p
 | .wN r,p=>r.leaf ok p
 | .Iy r,p=>r.leaf ok p
 | .pX _ r,p=>r.leaf ok p
 | .both a b,p=>match p with
  | []=>a.leaf ok []&&b.leaf ok []
  | false::p=>a.leaf ok p
  | true::p=>b.leaf ok p
 | _,_=>false
theorem F.ke{ok:SV→List Ck→Bool}(f:F): ∀(p:List Bool),f.leaf ok (p++[false])=true→f.leaf ok (p++[true])=true→f.leaf ok p=true:=by
 induction f with
 | vc b r ih=>
  intro p h1 h2;simp only [F.leaf,ai]at h1 h2 ⊢;exact⟨h1.1,ih p h1.2 h2.2⟩
 | fork c t e H9 H_=>
  intro p h1 h2;simp only [F.leaf]at h1 h2 ⊢;cases hc:c.ur with
  | some b=>cases b with
   | true=>simp only [hc]at h1 h2 ⊢;exact H9 p h1 h2
   | false=>simp only [hc]at h1 h2 ⊢;exact H_ p h1 h2
  | none=>
   simp only [hc]at h1 h2 ⊢;cases p with
   | nil=>simp only [List.nil_append]at h1 h2;simp only [h1,h2,Bool.and_self]
   | cons x p=>cases x with
    | false=>exact H9 p h1 h2
    | true=>exact H_ p h1 h2
 | ret u hp=>intro p h1 _;exact h1
 | DB r ih=>intro p h1 h2;exact ih p h1 h2
 | wN r ih=>intro p h1 h2;exact ih p h1 h2
 | Iy r ih=>intro p h1 h2;exact ih p h1 h2
 | pX b r ih=>intro p h1 h2;exact ih p h1 h2
 | both a b mr rz=>
  intro p h1 h2;cases p with
  | nil=>simp only [F.leaf,List.nil_append]at h1 h2 ⊢;simp only [h1,h2,Bool.and_self]
  | cons x p=>cases x with
   | false=>exact mr p h1 h2
   | true=>exact rz p h1 h2
 | fail=>intro p h1;simp [F.leaf]at h1
 | call=>intro p h1;simp [F.leaf]at h1
 | ext=>intro p h1;simp [F.leaf]at h1
 | loop=>intro p h1;simp [F.leaf]at h1
 | back=>intro p h1;simp [F.leaf]at h1
 | join=>intro p h1;simp [F.leaf]at h1
 | meet=>intro p h1;simp [F.leaf]at h1
 | ghost=>intro p h1;simp [F.leaf]at h1
theorem F.Jg{P:Program}{f:F}{ok:SV→List Ck→Bool}{Q:Value→List HP→Prop}(hq: ∀u hp ρ,ok u hp=true→Q (u.val ρ) (hp.map (Ck.den ρ)))(ρ:Env)(L:Nat→LC)(h:f.leaf ok []=true):VC P Q f ρ L:=by
 induction f generalizing ρ L with
 | vc b r ih=>
  simp only [F.leaf,ai]at h;exact⟨(BE.bQ ρ b).1 (xh h.1 ρ),fun _=>ih ρ L h.2⟩
 | fork c t e H9 H_=>
  simp only [F.leaf]at h;split at h
  ·rename_i hc;unfold BE.ur at hc;split at hc
   ·rename_i hs;simp only [auq]at hc;exact⟨fun _=>H9 ρ L h,fun hn=>absurd ((BE.bQ ρ c).1 (by rw [lJ hs];exact hc)) hn⟩
   ·cases hc
  ·rename_i hc;unfold BE.ur at hc;split at hc
   ·rename_i hs;simp only [auq]at hc;refine⟨fun hn=>?_,fun _=>H_ ρ L h⟩;have:=(BE.bQ ρ c).2 hn;rw [lJ hs,hc]at this;cases this
   ·cases hc
  ·simp only [ai]at h;exact⟨fun _=>H9 ρ L h.1,fun _=>H_ ρ L h.2⟩
 | ret u hp=>exact hq u hp ρ h
 | DB r ih=>exact fun _=>ih _ L h
 | wN r ih=>exact fun _=>ih _ L h
 | Iy r ih=>exact ih _ L h
 | pX b r ih=>cases b with
  | true=>exact fun _ _ _=>ih _ L h
  | false=>exact fun _ _=>ih _ L h
 | fail=>simp [F.leaf]at h
 | call=>simp [F.leaf]at h
 | ext=>simp [F.leaf]at h
 | loop=>simp [F.leaf]at h
 | back=>simp [F.leaf]at h
 | join=>simp [F.leaf]at h
 | meet=>simp [F.leaf]at h
 | ghost=>simp [F.leaf]at h
 | both a b mr rz=>
  simp only [F.leaf,ai]at h;exact⟨mr ρ L h.1,rz ρ L h.2⟩
end Go.RX
namespace Go.RX.Vb
open Go Go.RX Go.Proofs Go.Vs
noncomputable def Ud:Ctx:={T:=TT,FT:=FT,mE:=Vx.mE}
def z8(n:Nat):List SV:=List.replicate n (.int .u8 (.lit 0))
def b8(n:Int):SV:= .int .u8 (.lit n)
def plA:List SV:=b8 5::z8 31++[.int .u64 (.lit 0),b8 1,b8 2]++(b8 1::z8 31)++(b8 2::z8 31)
def plB:List SV:=[.int .i64 (.lit 31),.bx,b8 1,b8 2,b8 1,b8 4]++z8 6++[.bx,b8 0]++z8 16++[.bool (.lit false),b8 0,b8 0,b8 0]++z8 32++z8 32++z8 32++[.bx,.int .i64 (.lit (-1)),.bx,.int .u64 (.lit 0),.int .u64 (.lit 0),.int .u64 (.lit 0),.int .u64 (.lit 0),.int .u64 (.lit 0),.int .u32 (.lit 0),.bx,.bx]
def Wd:List Nat:=List.replicate 32 0
def iI:List cV:=[⟨3,4::List.replicate 31 0⟩]
def plain(o:List cV):Vs.State:=⟨5::List.replicate 31 0,0,⟨⟨⟨1,2⟩,1::List.replicate 31 0,2::List.replicate 31 0,o⟩,31,[]⟩,⟨⟨1,2⟩,[1,4,0,0,0,0,0,0],[],0,List.replicate 16 0,false,0,⟨0,0⟩,Wd,Wd,Wd,[],0,[],0,0,0,0,0,0⟩,[],[]⟩
abbrev bj:V1:=⟨.slice none 0 0,rfl⟩
def Jh(cs:List bP):Bool:=match cs with
 | [⟨.int .u32,1,a⟩,⟨.int .u8,32,b⟩]=>eU (eJ a (.lit 0))==some 3&&(List.range 32).all fun j=>eU (eJ b (.lit j))==some (if j=0 then 4 else 0)
 | _=>false
def AU(u:SV)(hp:List Ck):Bool:=match u with
 | .agg cs=>eM ((ib cs).take 99) plA&&eM ((ib cs).drop 100) plB&&(match ((ib cs)[99]? :Option SV)with
  | some .bx=>true
  | some (.vv k)=>(match hp with
   | [_,.cC true k' 93 33 n aA]=>k==k'&&eU n==some 1&&Jh aA
   | _=>false)
  | _=>false)
 | _=>false
set_option maxRecDepth 100000 in
theorem Dg(ρ:Env)(o:List cV)(v:Value):SV.ao ρ plA++v::SV.ao ρ plB=jS (plain o) v bj.v bj.v bj.v bj.v bj.v bj.v:=by rfl
open Go Go.RX Go.Proofs Go.Vs
theorem RO:(nZ Ud 20 [] [] {} Tryz.f20).leaf AU [true,false]=true:=by kernel_rfl
theorem RP:(nZ Ud 20 [] [] {} Tryz.f20).leaf AU [true,true]=true:=by kernel_rfl
theorem NP:(nZ Ud 20 [] [] {} Tryz.f20).leaf AU [false,true,false]=true:=by kernel_rfl
theorem NQ:(nZ Ud 20 [] [] {} Tryz.f20).leaf AU [false,true,true]=true:=by kernel_rfl
open Go Go.RX Go.Proofs Go.Vs
theorem Ji:(nZ Ud 20 [] [] {} Tryz.f20).leaf AU [false,false,false,false]=true:=by kernel_rfl
theorem Jj:(nZ Ud 20 [] [] {} Tryz.f20).leaf AU [false,false,false,true]=true:=by kernel_rfl
theorem Jk:(nZ Ud 20 [] [] {} Tryz.f20).leaf AU [false,false,true,false]=true:=by kernel_rfl
theorem Jl:(nZ Ud 20 [] [] {} Tryz.f20).leaf AU [false,false,true,true]=true:=by kernel_rfl
open Go.RX Go.Proofs
noncomputable def cxT:Ctx:={T:=TT,FT:=FT,br:=Vt.br,mE:=Vt.mE}
open Go.RX Go.Proofs
set_option maxRecDepth 100000
def K_(al:PT)(x0:Int)(A0:Nat→Int)(v0:V1):Prop:=
 ∀b0 b1:Nat,ax (0≤x0) (
 gS (x0 - 8) ((
 bt (4194304<x0) (
 al (.tuple #[zv1,.int .i64 3]) [XQ b0]) (
 ax (((x0 - 8)<10)∨(6≤x0)) (
 ax (((x0 - 8)<10)∨(6≤x0)) (
 bt (((x0 - 8)<10)∨(¬(dC (uv A0 6)=dC (PO [6,72,76,83,84,0,1])))) (
 al (.tuple #[zv1,.int .i64 9]) [XQ b0]) (
 ax (10≤x0) (
 ∀b2:Nat,∃XX:Ext→Prop,(∀(w:World) (Fs:List HP),bz ([ak b2 true ([.bool false,(aF 1 v0.v 6 10 none),.bool false]),bh v0 x0 A0]++Fs) w→∃(v1:V1) (x1:Int) (A1:Nat→Int),∃p0:HP,bz ([Gr b2 v1,bh v0 x0 A0,bh v1 x1 A1]++Fs) w∧XX ⟨[],[v1],[x1],[A1],[],[p0],[]⟩)∧
 (∀(v1:V1) (x1:Int) (A1:Nat→Int),∀p0:HP,XX ⟨[],[v1],[x1],[A1],[],[p0],[]⟩→
 ax (0≤(x0 - 8)) (
 ax ((x0 - 8)≤x0) (
 ∀b3:Nat,Cl 22 [.slice (some ⟨b3,0,none⟩) 1 1] [ak b3 true ([(aF 1 v0.v 0 (ag (x0 - 8)) none)]),bh v0 x0 A0] fun x hs l=> ∃A2:(Nat→Int),x= .agg (aul (aj .u8 32 A2) ([])).toArray∧hs=l∧
 ∀b4:Nat,gS ((x0 - 8) - 10) ((
 Cl 21 [pp b2,.int .u64 0,.int .i64 4] [Gr b2 v1,bh v1 x1 A1] fun x hs _=> ∃(v2:V1) (x2 x3:Int) (A3:Nat→Int) (q0:Bool),x= .int .u64 x2∧hs=[cO b2 v2 q0,bh v2 x3 A3]∧
 ax ((¬(x2=(ae .u64 ((x0 - 8) - 10))))∨(0≤(x0 - 8))) (
 ax ((¬(x2=(ae .u64 ((x0 - 8) - 10))))∨((x0 - 8)≤x0)) (
 bt (x2=(ae .u64 ((x0 - 8) - 10))) (
 Cl 43 [.slice (some ⟨b4,0,none⟩) 8 32,(aF 1 v0.v (ag (x0 - 8)) (ag x0) none)] [ak b4 true (aul (aj .u8 32 A2) ([])),bh v0 x0 A0] fun x hs l=> ∃q1:Bool,x= .bool q1∧hs=l∧
 bt (¬(q1=true)) (
 al (.tuple #[zv1,.int .i64 9]) [XQ b0]) (
 ax (10≤(x0 - 8)) (
 ∀b5:Nat,∃KZ:Ext→Prop,(∀(w:World) (Fs:List HP),bz ([ak b5 true ([.bool false,(aF 1 v0.v 10 (ag (x0 - 8)) none),.bool false]),bh v0 x0 A0]++Fs) w→∃(v3:V1) (x4:Int) (A4:Nat→Int),∃p1:HP,bz ([Gr b5 v3,bh v0 x0 A0,bh v3 x4 A4,p1]++Fs) w∧KZ ⟨[],[v3],[x4],[A4],[],[p1],[]⟩)∧
 (∀(v3:V1) (x4:Int) (A4:Nat→Int),∀p1:HP,KZ ⟨[],[v3],[x4],[A4],[],[p1],[]⟩→
 Cl 32 [pp b5,pp b1] [Gr b5 v3,bh v3 x4 A4,XQ b1,p1] fun x hs _=> ∃(v4 v5 v6 v7 v8 v9 v10 v11:V1) (x5 x6 x7 x8 x9 bE bO bT bL dR bW dF cr dB cI dz gQ fc fw fl fU jR kV jC oY nS:Int) (A5 A6 A7 A8 A9 dX dA df fN gk gn fJ ff eQ fe fg fO iH jW jX k_ n_ nj:Nat→Int) (q2:Bool),∃p2:HP,x= .tuple #[]∧hs=[cO b5 v4 q2,bh v4 x5 A5,TU b1 A6 x6 x7 x8 A7 A8 v5 x9 v6 bE bO A9 v7 bT dX (!(bL==0)) dR bW dF dA df fN v8 cr v9 dB cI dz gQ fc fw v10 v11,p2,qp v5 fl gk gn,D_ v6 fU fJ ff eQ,qt v7 jR fe,bq v8 kV fg,qs v9 jC fO iH,bq v10 oY jW,qo v11 nS jX k_ n_ nj]∧
 ax ((q2=true)∨(0≤x5)) (
 bt (¬((q2=true)∨(0<x5))) (
 Cl 10 [wI A6 x6 x7 x8 A7 A8 v5 x9 v6 bE bO A9 v7 bT dX (!(bL==0)) dR bW dF dA df fN v8 cr v9 dB cI dz gQ fc fw v10 v11] [qp v5 fl gk gn,D_ v6 fU fJ ff eQ,qt v7 jR fe,bq v8 kV fg,qs v9 jC fO iH,bq v10 oY jW,qo v11 nS jX k_ n_ nj,p2] fun x hs l=> ∃q3:Bool,x= .bool q3∧hs=l∧
 bt (¬(q3=true)) (
 al (.tuple #[zv1,.int .i64 9]) [XQ b0]) (
 al (.tuple #[wI A6 x6 x7 x8 A7 A8 v5 x9 v6 bE bO A9 v7 bT dX (!(bL==0)) dR bW dF dA df fN v8 cr v9 dB cI dz gQ fc fw v10 v11,.int .i64 0]) [TU b0 A6 x6 x7 x8 A7 A8 v5 x9 v6 bE bO A9 v7 bT dX (!(bL==0)) dR bW dF dA df fN v8 cr v9 dB cI dz gQ fc fw v10 v11,p2,qp v5 fl gk gn,D_ v6 fU fJ ff eQ,qt v7 jR fe,bq v8 kV fg,qs v9 jC fO iH,bq v10 oY jW,qo v11 nS jX k_ n_ nj])) (
 al (.tuple #[zv1,.int .i64 9]) [XQ b0])))))) (
 al (.tuple #[zv1,.int .i64 9]) [XQ b0]))))))))))))))))
theorem We(al:PT)(x0:Int)(A0:Nat→Int)(v0:V1)(h:K_ al x0 A0 v0):aq auN 17 [v0.v] [bh v0 x0 A0] al:=
 yM (C:=cxT) Vt.Rm Vt.I8 Vt.Eg ⟨[x0],[A0],[],[],[v0],[],[],[]⟩ Tryz.func17 (by kernel_rfl) h
def RQ(al:PT)(x0 x1:Int)(A0 A1:Nat→Int)(v0 v1:V1):Prop:=
 al (.bool (dC (uv A0 x0)==dC (uv A1 x1))) [bh v0 x0 A0,bh v1 x1 A1]
theorem aac(al:PT)(x0 x1:Int)(A0 A1:Nat→Int)(v0 v1:V1)(h:RQ al x0 x1 A0 A1 v0 v1):aq auN 43 [v0.v,v1.v] [bh v0 x0 A0,bh v1 x1 A1] al:=
 yM (C:=cx) Vt.eqA Vt.ain Vt.ad4 ⟨[x0,x1],[A0,A1],[],[],[v0,v1],[],[],[]⟩ Tryz.func43 (by kernel_rfl) h
open Go.RX Go.Proofs
noncomputable def aiR:Ctx:={T:=TT,FT:=FT,br:=Vr.Rh,mE:=Vr.VH}
noncomputable def aiS:Ctx:={T:=TT,FT:=FT,br:=Vr.Rk,mE:=Vr.VK}
open Go.RX Go.Proofs
set_option maxRecDepth 100000
set_option maxHeartbeats 4000000
def RR(al:PT)(x0 x1 x2 x3 x4 x5 x6 x7 x8 x9 bE bO bT bL dR bW dF cr dB cI dz gQ fc fw fl:Int)(A0 A1 A2 A3 A4 A5 A6 A7 A8 A9 dX dA df fN gk gn fJ ff eQ fe fg fO:Nat→Int)(v0 v1 v2 v3 v4 v5 v6:V1)(p0:HP):Prop:=
 ∀_:Nat,Cl 10 [wI A0 x0 x1 x2 A1 A2 v0 x3 v1 x4 x5 A3 v2 x6 A4 (!(x7==0)) x8 x9 bE A5 A6 A7 v3 bO v4 bT bL dR bW dF cr v5 v6] [oW v0 dB A8 A9,qu v1 cI dX dA df,pD v2 dz fN,bh v3 gQ gk,pC v4 fc gn fJ,bh v5 fw ff,s_ v6 fl eQ fe fg fO,p0] fun x hs l=> ∃q0:Bool,x= .bool q0∧hs=l∧
 bt (¬(q0=true)) (
 al (.tuple #[.slice none 0 0,.int .i64 2]) []) (
 Cl 13 [wI A0 x0 x1 x2 A1 A2 v0 x3 v1 x4 x5 A3 v2 x6 A4 (!(x7==0)) x8 x9 bE A5 A6 A7 v3 bO v4 bT bL dR bW dF cr v5 v6] [oW v0 dB A8 A9,qu v1 cI dX dA df,pD v2 dz fN,bh v3 gQ gk,pC v4 fc gn fJ,bh v5 fw ff,s_ v6 fl eQ fe fg fO,p0] fun x hs l=> ∃(v7:V1) (fU:Int) (iH:Nat→Int),x=v7.v∧hs=l++[bq v7 fU iH]∧
 ax (0≤fU) (
 bt (4194286<fU) (
 al (.tuple #[.slice none 0 0,.int .i64 3]) []) (
 ∀b1 b2:Nat,Cl 21 [pp b2,.int .u64 (ae .u64 fU),.int .i64 4] [ak b2 true ([.bool true,.slice (some ⟨b1,0,none⟩) 6 6,.bool false]),QE b1] fun x hs _=> ∃(v8:V1) (jR kV:Int) (jW:Nat→Int),x= .int .u64 jR∧hs=[dt b2 v8,bq v8 kV jW]∧
 ax (0≤kV) (
 lp (kV+fU) (
 ∀(v9:V1) (b3:Nat),Cl 22 [.slice (some ⟨b3,0,none⟩) 1 1] [ak b3 true ([v9.v]),bq v9 (kV+fU) (bX jW (ag kV) (ag fU) iH)] fun x hs l=> ∃jX:(Nat→Int),x= .agg (aul (aj .u8 32 jX) ([])).toArray∧hs=l∧
 ∀_:Nat,ax (0≤(kV+fU)) (
 lp ((kV+fU)+8) (
 ∀v10:V1,al (.tuple #[v10.v,.int .i64 0]) [bq v10 ((kV+fU)+8) (bX (bX jW (ag kV) (ag fU) iH) (ag (kV+fU)) 8 jX)])))))))
theorem aad(al:PT)(x0 x1 x2 x3 x4 x5 x6 x7 x8 x9 bE bO bT bL dR bW dF cr dB cI dz gQ fc fw fl:Int)(A0 A1 A2 A3 A4 A5 A6 A7 A8 A9 dX dA df fN gk gn fJ ff eQ fe fg fO:Nat→Int)(v0 v1 v2 v3 v4 v5 v6:V1)(p0:HP)(h:RR al x0 x1 x2 x3 x4 x5 x6 x7 x8 x9 bE bO bT bL dR bW dF cr dB cI dz gQ fc fw fl A0 A1 A2 A3 A4 A5 A6 A7 A8 A9 dX dA df fN gk gn fJ ff eQ fe fg fO v0 v1 v2 v3 v4 v5 v6 p0):aq auN 9 [wI A0 x0 x1 x2 A1 A2 v0 x3 v1 x4 x5 A3 v2 x6 A4 (!(x7==0)) x8 x9 bE A5 A6 A7 v3 bO v4 bT bL dR bW dF cr v5 v6] [oW v0 dB A8 A9,qu v1 cI dX dA df,pD v2 dz fN,bh v3 gQ gk,pC v4 fc gn fJ,bh v5 fw ff,s_ v6 fl eQ fe fg fO,p0] al:=
 yM (C:=aiS) Vr.XW Vq.KW Vq.Ef ⟨[x0,x1,x2,x3,x4,x5,x6,x7,x8,x9,bE,bO,bT,bL,dR,bW,dF,cr,dB,cI,dz,gQ,fc,fw,fl],[A0,A1,A2,A3,A4,A5,A6,A7,A8,A9,dX,dA,df,fN,gk,gn,fJ,ff,eQ,fe,fg,fO],[],[],[v0,v1,v2,v3,v4,v5,v6],[],[p0],[]⟩ Tryz.func9 (by kernel_rfl) h
def La(al:PT)(x0:Int)(b0 b1:Nat):Prop:=
 ∀(b2:Nat) (_:V1) (b3:Nat) (_:V1) (b4:Nat) (_:V1) (b5:Nat) (v3:V1),al (.int .u64 x0) [dt b0 v3,QE b1,ak b2 true ([.int .u8 (ae .u8 (ar .shr .u64 x0 24))]),aB true 5 1 v3.v 10 (aM 10 [ay .u8 1 (aw (aw (aw (bX (aw (aw (aw (aw (aw (aw (fun _=>0) 0 72) 1 76) 2 83) 3 84) 4 0) 5 1) 6 1 (aw (fun _=>0) 0 (ae .u8 (ar .shr .u64 x0 24)))) 7 (ae .u8 (ar .shr .u64 x0 16))) 8 (ae .u8 (ar .shr .u64 x0 8))) 9 (ae .u8 (ar .shr .u64 x0 0)))]),ak b3 true ([.int .u8 (ae .u8 (ar .shr .u64 x0 16))]),ak b4 true ([.int .u8 (ae .u8 (ar .shr .u64 x0 8))]),ak b5 true ([.int .u8 (ae .u8 (ar .shr .u64 x0 0))])]
theorem Wf(al:PT)(x0:Int)(b0 b1:Nat)(h:La al x0 b0 b1):aq auN 21 [pp b0,.int .u64 x0,.int .i64 4] [ak b0 true ([.bool true,.slice (some ⟨b1,0,none⟩) 6 6,.bool false]),QE b1] al:=
 yM (C:=cx) Vr.ZA Vr.VJ Vr.Rj ⟨[x0],[],[],[b0,b1],[],[],[],[]⟩ Tryz.func21 (by kernel_rfl) h
open Go.RX Go.Proofs
set_option maxRecDepth 100000
set_option maxHeartbeats 4000000
def Lc(al:PT)(x0 x1 x2 x3 x4 x5 x6 x7 x8 x9 bE bO bT bL dR bW dF cr dB cI dz gQ fc fw fl:Int)(A0 A1 A2 A3 A4 A5 A6 A7 A8 A9 dX dA df fN gk gn fJ ff eQ fe fg fO:Nat→Int)(v0 v1 v2 v3 v4 v5 v6:V1)(p0:HP):Prop:=
 ∀b0 b1:Nat,∃Ig0:Ext→Prop,(∀(w:World) (Fs:List HP),bz ([ak b1 true ([.bool true,.slice none 0 0,.bool false])]++Fs) w→∃v7:V1,bz ([dt b1 v7,aB true 5 1 v7.v 0 (aM 0 [ay .u8 1 (fun _=>0)])]++Fs) w∧Ig0 ⟨[],[v7],[],[],[],[],[]⟩)∧
 (∀v7:V1,Ig0 ⟨[],[v7],[],[],[],[],[]⟩→
 Cl 32 [pp b1,pp b0] [dt b1 v7,aB true 5 1 v7.v 0 (aM 0 [ay .u8 1 (fun _=>0)]),TU b0 A0 x0 x1 x2 A1 A2 v0 x3 v1 x4 x5 A3 v2 x6 A4 (!(x7==0)) x8 x9 bE A5 A6 A7 v3 bO v4 bT bL dR bW dF cr v5 v6,oW v0 dB A8 A9,qu v1 cI dX dA df,pD v2 dz fN,bh v3 gQ gk,pC v4 fc gn fJ,bh v5 fw ff,s_ v6 fl eQ fe fg fO,p0] fun x hs _=> ∃(v8:V1) (fU:Int) (iH:Nat→Int),x= .tuple #[]∧hs=[dt b1 v8,bq v8 fU iH]∧
 al (v8.v) [HP.emp,HP.emp,HP.emp,HP.emp,HP.emp,HP.emp,HP.emp,HP.emp,HP.emp,dt b1 v8,bq v8 fU iH])
theorem Wg(al:PT)(x0 x1 x2 x3 x4 x5 x6 x7 x8 x9 bE bO bT bL dR bW dF cr dB cI dz gQ fc fw fl:Int)(A0 A1 A2 A3 A4 A5 A6 A7 A8 A9 dX dA df fN gk gn fJ ff eQ fe fg fO:Nat→Int)(v0 v1 v2 v3 v4 v5 v6:V1)(p0:HP)(h:Lc al x0 x1 x2 x3 x4 x5 x6 x7 x8 x9 bE bO bT bL dR bW dF cr dB cI dz gQ fc fw fl A0 A1 A2 A3 A4 A5 A6 A7 A8 A9 dX dA df fN gk gn fJ ff eQ fe fg fO v0 v1 v2 v3 v4 v5 v6 p0):aq auN 13 [wI A0 x0 x1 x2 A1 A2 v0 x3 v1 x4 x5 A3 v2 x6 A4 (!(x7==0)) x8 x9 bE A5 A6 A7 v3 bO v4 bT bL dR bW dF cr v5 v6] [oW v0 dB A8 A9,qu v1 cI dX dA df,pD v2 dz fN,bh v3 gQ gk,pC v4 fc gn fJ,bh v5 fw ff,s_ v6 fl eQ fe fg fO,p0] al:=
 yM (C:=aiR) Vr.XW Vq.KW Vq.Ef ⟨[x0,x1,x2,x3,x4,x5,x6,x7,x8,x9,bE,bO,bT,bL,dR,bW,dF,cr,dB,cI,dz,gQ,fc,fw,fl],[A0,A1,A2,A3,A4,A5,A6,A7,A8,A9,dX,dA,df,fN,gk,gn,fJ,ff,eQ,fe,fg,fO],[],[],[v0,v1,v2,v3,v4,v5,v6],[],[p0],[]⟩ Tryz.func13 (by kernel_rfl) h
open Go.RX Go.Proofs
noncomputable def cxQ:Ctx:={T:=TT,FT:=FT,loops:=Vq.loops,br:=Vq.br}
noncomputable def aiT:Ctx:={T:=TT,FT:=FT,loops:=Vq.Zt}
noncomputable def aiU:Ctx:={T:=TT,FT:=FT,br:=Vq.Rg}
open Go.RX Go.Proofs
set_option maxRecDepth 100000
set_option maxHeartbeats 4000000
def RT(al:PT)(x0 x1 x2 x3 x4 x5 x6 x7:Int)(A0 A1 A2 A3 A4:Nat→Int)(b0 b1:Nat):Prop:=
 ∀b2:Nat,bt (¬((A4 (ag ((aW ((List.range 16).map A2):Nat):Int)))=0)) (
 al (.tuple #[(cN (A4 (ag ((aW ((List.range 16).map A2):Nat):Int)))),.bool true]) [U5 b0 x0 x1 A0 x2 x3 x4 x5 b1 A1,I2 b1 A3 A4,ak b2 true (aul (aj .u8 16 A2) ([]))]) (
 bt (8≤(A3 0)) (
 al (.tuple #[.pointer none,.bool false]) [U5 b0 x0 x1 A0 x2 x3 x4 x5 b1 A1,I2 b1 A3 A4,ak b2 true (aul (aj .u8 16 A2) ([]))]) (
 ∀b3 b4 b5 b6 _ _ _ _ _ Ue:Nat,al (.tuple #[pp b6,.bool true]) [U5 b0 x0 x1 A0 x2 x3 x4 x5 b1 A1,oN b1 [.u8,.u8,.u8,.u8,.u8,.u8,.u8,.u8,.u8,.u8,.u8,.u8,.u8,.u8,.u8,.u8] true false ([.pointer none]) (aw (aw A3 0 (((A3 0)+1) - (ar .iO .i64 (A3 (ag ((aW ((List.range 16).map A2):Nat):Int))) 1))) (ag ((aW ((List.range 16).map A2):Nat):Int)) 1) (Qr [vg 1 (aw A4 (ag ((aW ((List.range 16).map A2):Nat):Int)) ((b6:Nat)+1:Int))]),ak b2 true (aul (aj .u8 16 A2) ([])),ak b3 true ([.func (.func 79) #[pp b0] #[]]),ak b4 true ([.int .u8 x0,.int .u8 x1]),ak b5 true ((.iface 292 (pp b3))::(.int .u8 x0::(.int .u8 x1::(.bool false::(aul (aj .u8 16 (fun _=>0)) ([.int .u64 0,.slice none 0 0,.slice none 0 0,.slice none 0 0])))))),ak b6 true ([pp b5,pp Ue,.bool false,.bool (!(x7==0)),.int .u8 x6,.int .u64 0])]))
theorem aae(al:PT)(x0 x1 x2 x3 x4 x5 x6 x7:Int)(A0 A1 A2 A3 A4:Nat→Int)(b0 b1:Nat)(h:RT al x0 x1 x2 x3 x4 x5 x6 x7 A0 A1 A2 A3 A4 b0 b1):aq auN 38 [pp b0,.agg (aul (aj .u8 16 A2) ([])).toArray,.int .u8 x6,.bool (!(x7==0))] [U5 b0 x0 x1 A0 x2 x3 x4 x5 b1 A1,I2 b1 A3 A4] al:=
 s8 (C:=cx) Vq.aih Vq.adX Vq.Zo ⟨[x0,x1,x2,x3,x4,x5,x6,x7],[A0,A1,A2,A3,A4],[],[b0,b1],[],[],[],[]⟩ 7 Tryz.func38 (by kernel_rfl) h
def RU(al:PT)(x0 x1 x2 x3 x4 x5 x6 x7 x8 x9 bE bO bT bL dR bW dF cr dB cI dz gQ fc fw fl:Int)(A0 A1 A2 A3 A4 A5 A6 A7 A8 A9 dX dA df fN gk gn fJ ff eQ fe fg fO:Nat→Int)(v0 v1 v2 v3 v4 v5 v6:V1)(p0:HP):Prop:=
 ∀_:Nat,Cl 34 [.agg (.int .u8 x1::(.int .u8 x2::(aul (aj .u8 32 A1) (aul (aj .u8 32 A2) ([v0.v,.int .i64 x3,v1.v]))))).toArray] [oW v0 dB A8 A9,qu v1 cI dX dA df,p0] fun x hs l=> ∃fU jR:Int,x= .tuple #[(cN fU),.int .i64 jR]∧hs=l∧
 bt (¬(jR=0)) (
 al (.tuple #[.pointer none,.int .i64 jR]) []) (
 Cl 35 [.agg (.int .u8 x4::(.int .u8 x5::(aul (aj .u8 8 A3) (v2.v::(.int .u8 x6::(aul (aj .u8 16 A4) (.bool (!(x7==0))::(.int .u8 x8::(.int .u8 x9::(.int .u8 bE::(aul (aj .u8 32 A5) (aul (aj .u8 32 A6) (aul (aj .u8 32 A7) ([v3.v,.int .i64 bO,v4.v,.int .u64 bT,.int .u64 bL,.int .u64 dR,.int .u64 bW,.int .u64 dF,.int .u32 cr])))))))))))))).toArray] [pD v2 dz fN,bh v3 gQ gk,pC v4 fc gn fJ] fun x hs l=> ∃kV jC:Int,x= .tuple #[(cN kV),.int .i64 jC]∧hs=l∧
 bt (¬(jC=0)) (
 al (.tuple #[.pointer none,.int .i64 jC]) []) (
 Cl 36 [v5.v] [bh v5 fw ff] fun x hs l=> ∃oY nS:Int,x= .tuple #[(cN oY),.int .i64 nS]∧hs=l∧
 bt (¬(nS=0)) (
 al (.tuple #[.pointer none,.int .i64 nS]) []) (
 ax ((¬((x4=x1)∧(x5=x2)))∨(0≤fl)) (
 bt ((¬((x4=x1)∧(x5=x2)))∨(8<fl)) (
 al (.tuple #[.pointer none,.int .i64 2]) []) (
 ∀b1 b2:Nat,ax (0≤fl) (
 ∃(mR:Ext→Prop) (qx:Ext→Nat),(∃(im:Int) (iH jW:Nat→Int),im=0∧(iH=(fun _=>0))∧(jW=(fun _=>0))∧mR ⟨[],[],[im],[iH,jW],[],[],[]⟩)∧
 ∀(im:Int) (iH jW:Nat→Int),mR ⟨[],[],[im],[iH,jW],[],[],[]⟩→
 bt (im<fl) (
 ax (0≤im) (
 ∀b3:Nat,ax ((¬(0<im))∨((-9223372036854775808)≤(im - 1))) (
 ax ((¬(0<im))∨((im - 1)≤9223372036854775807)) (
 ax ((¬(0<im))∨(0≤(im - 1))) (
 ax ((¬(0<im))∨((im - 1)<fl)) (
 ax ((¬(0<im))∨(0≤(im - 1))) (
 ax ((¬(0<im))∨((im - 1)<fl)) (
 ax ((¬(0<im))∨(0≤(im - 1))) (
 ax ((¬(0<im))∨((im - 1)<fl)) (
 bt (0<im) (
 Cl 37 [(zP v6.v ((ag (im - 1))*19+0) 16),.slice (some ⟨b3,0,none⟩) 16 16] [s_ v6 fl eQ fe fg fO,Gq b3 (bY eQ (ag (im*16))) (fe (ag im)) (!((fg (ag im))==0)) (fO (ag im))] fun x hs l=> ∃Cr:Int,x= .int .i64 Cr∧hs=l∧
 bt ((0≤Cr)∨(8≤(fe (ag im)))) (
 al (.tuple #[.pointer none,.int .i64 2]) []) (
 Cl 38 [pp b2,.agg (aul (aj .u8 16 (bY eQ (ag (im*16)))) ([])).toArray,.int .u8 (fe (ag im)),.bool (!((fg (ag im))==0))] [U4 b2 x4 x5 A0 x0 fU kV oY b1,I2 b1 iH jW] fun x hs _=> ∃(b4:Nat) (uR rj rl:Int) (jX k_:Nat→Int) (q0:Bool),x= .tuple #[pp b4,.bool true]∧hs=[U4 b2 x4 x5 A0 x0 fU kV oY b1,I2 b1 jX k_,ak b4 true ([(cN uR),(cN rj),.bool false,.bool q0,.int .u8 rl,.int .u64 0])]∧
 gS (im+1) ((
 ∃(vW:Int) (uA uB:Nat→Int),vW=(im+1)∧(uA=jX)∧(uB=k_)∧mR ⟨[],[],[vW],[uA,uB],[],[],[]⟩∧qx ⟨[],[],[vW],[uA,uB],[],[],[]⟩<qx ⟨[],[],[im],[iH,jW],[],[],[]⟩)))) (
 bt (8≤(fe (ag im))) (
 al (.tuple #[.pointer none,.int .i64 2]) []) (
 Cl 38 [pp b2,.agg (aul (aj .u8 16 (bY eQ (ag (im*16)))) ([])).toArray,.int .u8 (fe (ag im)),.bool (!((fg (ag im))==0))] [U4 b2 x4 x5 A0 x0 fU kV oY b1,I2 b1 iH jW] fun x hs _=> ∃(b4:Nat) (Cr uR rj:Int) (jX k_:Nat→Int) (q0:Bool),x= .tuple #[pp b4,.bool true]∧hs=[U4 b2 x4 x5 A0 x0 fU kV oY b1,I2 b1 jX k_,ak b4 true ([(cN Cr),(cN uR),.bool false,.bool q0,.int .u8 rj,.int .u64 0])]∧
 gS (im+1) ((
 ∃(vW:Int) (uA uB:Nat→Int),vW=(im+1)∧(uA=jX)∧(uB=k_)∧mR ⟨[],[],[vW],[uA,uB],[],[],[]⟩∧qx ⟨[],[],[vW],[uA,uB],[],[],[]⟩<qx ⟨[],[],[im],[iH,jW],[],[],[]⟩)))))))))))))) (
 al (.tuple #[pp b2,.int .i64 0]) [])))))))
theorem aaf(al:PT)(x0 x1 x2 x3 x4 x5 x6 x7 x8 x9 bE bO bT bL dR bW dF cr dB cI dz gQ fc fw fl:Int)(A0 A1 A2 A3 A4 A5 A6 A7 A8 A9 dX dA df fN gk gn fJ ff eQ fe fg fO:Nat→Int)(v0 v1 v2 v3 v4 v5 v6:V1)(p0:HP)(h:RU al x0 x1 x2 x3 x4 x5 x6 x7 x8 x9 bE bO bT bL dR bW dF cr dB cI dz gQ fc fw fl A0 A1 A2 A3 A4 A5 A6 A7 A8 A9 dX dA df fN gk gn fJ ff eQ fe fg fO v0 v1 v2 v3 v4 v5 v6 p0):aq auN 15 [wI A0 x0 x1 x2 A1 A2 v0 x3 v1 x4 x5 A3 v2 x6 A4 (!(x7==0)) x8 x9 bE A5 A6 A7 v3 bO v4 bT bL dR bW dF cr v5 v6,.nilIface] [oW v0 dB A8 A9,qu v1 cI dX dA df,pD v2 dz fN,bh v3 gQ gk,pC v4 fc gn fJ,bh v5 fw ff,s_ v6 fl eQ fe fg fO,p0] al:=
 s8 (C:=cxQ) Vq.aii Vq.KW Vq.Ef ⟨[x0,x1,x2,x3,x4,x5,x6,x7,x8,x9,bE,bO,bT,bL,dR,bW,dF,cr,dB,cI,dz,gQ,fc,fw,fl],[A0,A1,A2,A3,A4,A5,A6,A7,A8,A9,dX,dA,df,fN,gk,gn,fJ,ff,eQ,fe,fg,fO],[],[],[v0,v1,v2,v3,v4,v5,v6],[],[p0],[]⟩ 0 Tryz.func15 (by kernel_rfl) h
def RV(al:PT)(x0 x1:Int)(A0 A1:Nat→Int)(v0 v1:V1):Prop:=
 ax (0≤x0) (
 ∃(cH:Ext→Prop) (dp:Ext→Nat),(∃x2:Int,x2=0∧cH ⟨[],[],[x2],[],[],[],[]⟩)∧
 ∀x2:Int,cH ⟨[],[],[x2],[],[],[],[]⟩→
 bt (x2<x0) (
 ax (0≤x2) (
 ax (0≤x1) (
 bt (x1≤x2) (
 al (.int .i64 1) [bh v0 x0 A0,bh v1 x1 A1]) (
 ax (x2<x1) (
 bt ((A0 (ag x2))<(A1 (ag x2))) (
 al (.int .i64 (-1)) [bh v0 x0 A0,bh v1 x1 A1]) (
 bt ((A1 (ag x2))<(A0 (ag x2))) (
 al (.int .i64 1) [bh v0 x0 A0,bh v1 x1 A1]) (
 gS (x2+1) ((
 ∃h_:Int,h_=(x2+1)∧cH ⟨[],[],[h_],[],[],[],[]⟩∧dp ⟨[],[],[h_],[],[],[],[]⟩<dp ⟨[],[],[x2],[],[],[],[]⟩))))))))) (
 ax (0≤x0) (
 ax (0≤x1) (
 bt (x0<x1) (
 al (.int .i64 (-1)) [bh v0 x0 A0,bh v1 x1 A1]) (
 al (.int .i64 0) [bh v0 x0 A0,bh v1 x1 A1])))))
theorem aag(al:PT)(x0 x1:Int)(A0 A1:Nat→Int)(v0 v1:V1)(h:RV al x0 x1 A0 A1 v0 v1):aq auN 37 [v0.v,v1.v] [bh v0 x0 A0,bh v1 x1 A1] al:=
 s8 (C:=aiT) Vq.aij Vq.adY Vq.Zs ⟨[x0,x1],[A0,A1],[],[],[v0,v1],[],[],[]⟩ 2 Tryz.func37 (by kernel_rfl) h
def RW(al:PT)(x0 x1 x2 x3 x4 x5 x6 x7 x8 x9 bE bO bT bL dR bW dF cr dB cI dz gQ fc fw fl:Int)(A0 A1 A2 A3 A4 A5 A6 A7 A8 A9 dX dA df fN gk gn fJ ff eQ fe fg fO:Nat→Int)(v0 v1 v2 v3 v4 v5 v6:V1)(p0:HP):Prop:=
 ∀_:Nat,bt ((((x3<0)∨(2147483647<x3))∨(bO<(-1)))∨(254<bO)) (
 al (.bool false) []) (
 Cl 15 [wI A0 x0 x1 x2 A1 A2 v0 x3 v1 x4 x5 A3 v2 x6 A4 (!(x7==0)) x8 x9 bE A5 A6 A7 v3 bO v4 bT bL dR bW dF cr v5 v6,.nilIface] [oW v0 dB A8 A9,qu v1 cI dX dA df,pD v2 dz fN,bh v3 gQ gk,pC v4 fc gn fJ,bh v5 fw ff,s_ v6 fl eQ fe fg fO,p0] fun x hs l=> ∃fU jR:Int,x= .tuple #[(cN fU),.int .i64 jR]∧hs=l∧
 al (.bool (jR==0)) [])
theorem aah(al:PT)(x0 x1 x2 x3 x4 x5 x6 x7 x8 x9 bE bO bT bL dR bW dF cr dB cI dz gQ fc fw fl:Int)(A0 A1 A2 A3 A4 A5 A6 A7 A8 A9 dX dA df fN gk gn fJ ff eQ fe fg fO:Nat→Int)(v0 v1 v2 v3 v4 v5 v6:V1)(p0:HP)(h:RW al x0 x1 x2 x3 x4 x5 x6 x7 x8 x9 bE bO bT bL dR bW dF cr dB cI dz gQ fc fw fl A0 A1 A2 A3 A4 A5 A6 A7 A8 A9 dX dA df fN gk gn fJ ff eQ fe fg fO v0 v1 v2 v3 v4 v5 v6 p0):aq auN 10 [wI A0 x0 x1 x2 A1 A2 v0 x3 v1 x4 x5 A3 v2 x6 A4 (!(x7==0)) x8 x9 bE A5 A6 A7 v3 bO v4 bT bL dR bW dF cr v5 v6] [oW v0 dB A8 A9,qu v1 cI dX dA df,pD v2 dz fN,bh v3 gQ gk,pC v4 fc gn fJ,bh v5 fw ff,s_ v6 fl eQ fe fg fO,p0] al:=
 s8 (C:=aiU) Vq.aik Vq.KW Vq.Ef ⟨[x0,x1,x2,x3,x4,x5,x6,x7,x8,x9,bE,bO,bT,bL,dR,bW,dF,cr,dB,cI,dz,gQ,fc,fw,fl],[A0,A1,A2,A3,A4,A5,A6,A7,A8,A9,dX,dA,df,fN,gk,gn,fJ,ff,eQ,fe,fg,fO],[],[],[v0,v1,v2,v3,v4,v5,v6],[],[p0],[]⟩ 0 Tryz.func10 (by kernel_rfl) h
open Go.RX Go.Proofs
set_option maxRecDepth 100000
def Ld(al:PT)(x0:Int)(A0 _:Nat→Int)(v0:V1):Prop:=
 ∀b0:Nat,ax (0≤x0) (
 ∃(cH:Ext→Prop) (dp:Ext→Nat),(∃(v2:V1) (x1 x2:Int) (A2:Nat→Int),x1=0∧v2=(⟨.slice none 0 0,rfl⟩:V1)∧v2=(⟨.slice none 0 0,rfl⟩:V1)∧x2=0∧(∀j,j<(ag (x2*16))→A2 j=(fun _=>0) j)∧cH ⟨[],[v2],[x1,x2],[A2],[],[],[]⟩)∧
 ∀(v2:V1) (x1 x2:Int) (A2:Nat→Int),cH ⟨[],[v2],[x1,x2],[A2],[],[],[]⟩→
 bt (x1<x0) (
 ax (0≤x1) (
 ∀_ _ _ _ _:Nat,ax (0≤x2) (
 ∃(tP:Ext→Prop) (zL:Ext→Nat),(∃x3:Int,x3=0∧tP ⟨[],[],[x3],[],[],[],[]⟩)∧
 ∀x3:Int,tP ⟨[],[],[x3],[],[],[],[]⟩→
 bt (x3<x2) (
 ax (0≤x3) (
 bt (∀j,j<16→(bY A0 (ag (x1*16))) j=(bY A2 (ag (x3*16))) j) (
 gS (x1+1) ((
 ax (0≤x2) (
 ∀v3:V1,∃(mS:V1) (kX h_:Int) (r7:Nat→Int),kX=(x1+1)∧mS=v3∧mS=v3∧h_=x2∧(∀j,j<(ag (h_*16))→r7 j=A2 j)∧cH ⟨[],[mS],[kX,h_],[r7],[],[],[]⟩∧dp ⟨[],[mS],[kX,h_],[r7],[],[],[]⟩<dp ⟨[],[v2],[x1,x2],[A2],[],[],[]⟩)))) (
 gS (x3+1) ((
 ∃pO:Int,pO=(x3+1)∧tP ⟨[],[],[pO],[],[],[],[]⟩∧zL ⟨[],[],[pO],[],[],[],[]⟩<zL ⟨[],[],[x3],[],[],[],[]⟩))))) (
 ∀_:Nat,ax (0≤x2) (
 lp ((x2+1)*16) (
 ∀_:V1,ax (0≤(x2+1)) (
 gS ((x2+1) - 256) ((
 bt (0<((x2+1) - 256)) (
 ax (0≤((x2+1) - 256)) (
 ax (((x2+1) - 256)≤(x2+1)) (
 bt (0=((x2+1) - 256)) (
 gS (x1+1) ((
 ax (0≤(x2+1)) (
 ∀v4:V1,∃(mS:V1) (kX h_:Int) (r7:Nat→Int),kX=(x1+1)∧mS=v4∧mS=v4∧h_=(x2+1)∧(∀j,j<(ag (h_*16))→r7 j=(bX A2 (ag (x2*16)) 16 (bY A0 (ag (x1*16)))) j)∧cH ⟨[],[mS],[kX,h_],[r7],[],[],[]⟩∧dp ⟨[],[mS],[kX,h_],[r7],[],[],[]⟩<dp ⟨[],[v2],[x1,x2],[A2],[],[],[]⟩)))) (
 ax (0≤((x2+1) - ((x2+1) - 256))) (
 ax (0≤((x2+1) - ((x2+1) - 256))) (
 ax (((x2+1) - ((x2+1) - 256))≤(x2+1)) (
 ax (0≤((x2+1) - ((x2+1) - ((x2+1) - 256)))) (
 gS (x1+1) ((
 ax (0≤((x2+1) - ((x2+1) - 256))) (
 ax (((x2+1) - ((x2+1) - 256))≤(x2+1)) (
 ax (0≤((x2+1) - ((x2+1) - 256))) (
 ∀v4:V1,∃(mS:V1) (kX h_:Int) (r7:Nat→Int),kX=(x1+1)∧mS=v4∧mS=v4∧h_=((x2+1) - ((x2+1) - 256))∧(∀j,j<(ag (h_*16))→r7 j=(bX (bX (bX A2 (ag (x2*16)) 16 (bY A0 (ag (x1*16)))) 0 (ag (((x2+1) - ((x2+1) - 256))*16)) (bY (bX A2 (ag (x2*16)) 16 (bY A0 (ag (x1*16)))) (ag (((x2+1) - 256)*16)))) (ag (((x2+1) - ((x2+1) - 256))*16)) (ag (((x2+1) - ((x2+1) - ((x2+1) - 256)))*16)) (fun _=>0)) j)∧cH ⟨[],[mS],[kX,h_],[r7],[],[],[]⟩∧dp ⟨[],[mS],[kX,h_],[r7],[],[],[]⟩<dp ⟨[],[v2],[x1,x2],[A2],[],[],[]⟩))))))))))))) (
 gS (x1+1) ((
 ax (0≤(x2+1)) (
 ∀v4:V1,∃(mS:V1) (kX h_:Int) (r7:Nat→Int),kX=(x1+1)∧mS=v4∧mS=v4∧h_=(x2+1)∧(∀j,j<(ag (h_*16))→r7 j=(bX A2 (ag (x2*16)) 16 (bY A0 (ag (x1*16)))) j)∧cH ⟨[],[mS],[kX,h_],[r7],[],[],[]⟩∧dp ⟨[],[mS],[kX,h_],[r7],[],[],[]⟩<dp ⟨[],[v2],[x1,x2],[A2],[],[],[]⟩))))))))))))) (
 al (pp b0) [pD v0 x0 A0]))
theorem Wh(al:PT)(x0:Int)(A0 A1:Nat→Int)(v0:V1)(h:Ld al x0 A0 A1 v0):aq auN 70 [.int .i64 256,v0.v] [pD v0 x0 A0] al:=
 s8 (C:=cxO) Vo.ah_ Vo.hpI Vo.Nc ⟨[x0],[A0,A1],[],[],[v0],[],[],[]⟩ 1 Tryz.func70 (by kernel_rfl) h
def Lf(al:PT)(x0:Int)(A0 A1:Nat→Int)(v0:V1):Prop:=
 ∀b0:Nat,ax (0≤x0) (
 ∃(cH:Ext→Prop) (dp:Ext→Nat),(∃(v2:V1) (x1 x2:Int) (A2 A3:Nat→Int),x1=0∧v2=(⟨.slice none 0 0,rfl⟩:V1)∧v2=(⟨.slice none 0 0,rfl⟩:V1)∧x2=0∧(∀j,j<(ag x2)→A2 j=(fun _=>0) j)∧(∀j,j<(ag x2)→A3 j=(fun _=>0) j)∧cH ⟨[],[v2],[x1,x2],[A2,A3],[],[],[]⟩)∧
 ∀(v2:V1) (x1 x2:Int) (A2 A3:Nat→Int),cH ⟨[],[v2],[x1,x2],[A2,A3],[],[],[]⟩→
 bt (x1<x0) (
 ax (0≤x1) (
 ∀_ _ _ _ _:Nat,ax (0≤x2) (
 ∃(tP:Ext→Prop) (zL:Ext→Nat),(∃x3:Int,x3=0∧tP ⟨[],[],[x3],[],[],[],[]⟩)∧
 ∀x3:Int,tP ⟨[],[],[x3],[],[],[],[]⟩→
 bt (x3<x2) (
 ax (0≤x3) (
 bt (((A0 (ag x1))=(A2 (ag x3)))∧((A1 (ag x1))=(A3 (ag x3)))) (
 gS (x1+1) ((
 ax (0≤x2) (
 ∀v3:V1,∃(mS:V1) (kX h_:Int) (r7 rm:Nat→Int),kX=(x1+1)∧mS=v3∧mS=v3∧h_=x2∧(∀j,j<(ag h_)→r7 j=A2 j)∧(∀j,j<(ag h_)→rm j=A3 j)∧cH ⟨[],[mS],[kX,h_],[r7,rm],[],[],[]⟩∧dp ⟨[],[mS],[kX,h_],[r7,rm],[],[],[]⟩<dp ⟨[],[v2],[x1,x2],[A2,A3],[],[],[]⟩)))) (
 gS (x3+1) ((
 ∃pO:Int,pO=(x3+1)∧tP ⟨[],[],[pO],[],[],[],[]⟩∧zL ⟨[],[],[pO],[],[],[],[]⟩<zL ⟨[],[],[x3],[],[],[],[]⟩))))) (
 ∀_:Nat,ax (0≤x2) (
 lp ((x2+1)*2) (
 ∀_:V1,ax (0≤(x2+1)) (
 gS ((x2+1) - 4) ((
 bt (0<((x2+1) - 4)) (
 ax (0≤((x2+1) - 4)) (
 ax (((x2+1) - 4)≤(x2+1)) (
 bt (0=((x2+1) - 4)) (
 gS (x1+1) ((
 ax (0≤(x2+1)) (
 ∀v4:V1,∃(mS:V1) (kX h_:Int) (r7 rm:Nat→Int),kX=(x1+1)∧mS=v4∧mS=v4∧h_=(x2+1)∧(∀j,j<(ag h_)→r7 j=(aw A2 (ag x2) (A0 (ag x1))) j)∧(∀j,j<(ag h_)→rm j=(aw A3 (ag x2) (A1 (ag x1))) j)∧cH ⟨[],[mS],[kX,h_],[r7,rm],[],[],[]⟩∧dp ⟨[],[mS],[kX,h_],[r7,rm],[],[],[]⟩<dp ⟨[],[v2],[x1,x2],[A2,A3],[],[],[]⟩)))) (
 ax (0≤((x2+1) - ((x2+1) - 4))) (
 ax (0≤((x2+1) - ((x2+1) - 4))) (
 ax (((x2+1) - ((x2+1) - 4))≤(x2+1)) (
 ax (0≤((x2+1) - ((x2+1) - ((x2+1) - 4)))) (
 gS (x1+1) ((
 ax (0≤((x2+1) - ((x2+1) - 4))) (
 ax (((x2+1) - ((x2+1) - 4))≤(x2+1)) (
 ax (0≤((x2+1) - ((x2+1) - 4))) (
 ∀v4:V1,∃(mS:V1) (kX h_:Int) (r7 rm:Nat→Int),kX=(x1+1)∧mS=v4∧mS=v4∧h_=((x2+1) - ((x2+1) - 4))∧(∀j,j<(ag h_)→r7 j=(bX (bX (aw A2 (ag x2) (A0 (ag x1))) 0 (ag ((x2+1) - ((x2+1) - 4))) (bY (aw A2 (ag x2) (A0 (ag x1))) (ag ((x2+1) - 4)))) (ag ((x2+1) - ((x2+1) - 4))) (ag ((x2+1) - ((x2+1) - ((x2+1) - 4)))) (fun _=>0)) j)∧(∀j,j<(ag h_)→rm j=(bX (bX (aw A3 (ag x2) (A1 (ag x1))) 0 (ag ((x2+1) - ((x2+1) - 4))) (bY (aw A3 (ag x2) (A1 (ag x1))) (ag ((x2+1) - 4)))) (ag ((x2+1) - ((x2+1) - 4))) (ag ((x2+1) - ((x2+1) - ((x2+1) - 4)))) (fun _=>0)) j)∧cH ⟨[],[mS],[kX,h_],[r7,rm],[],[],[]⟩∧dp ⟨[],[mS],[kX,h_],[r7,rm],[],[],[]⟩<dp ⟨[],[v2],[x1,x2],[A2,A3],[],[],[]⟩))))))))))))) (
 gS (x1+1) ((
 ax (0≤(x2+1)) (
 ∀v4:V1,∃(mS:V1) (kX h_:Int) (r7 rm:Nat→Int),kX=(x1+1)∧mS=v4∧mS=v4∧h_=(x2+1)∧(∀j,j<(ag h_)→r7 j=(aw A2 (ag x2) (A0 (ag x1))) j)∧(∀j,j<(ag h_)→rm j=(aw A3 (ag x2) (A1 (ag x1))) j)∧cH ⟨[],[mS],[kX,h_],[r7,rm],[],[],[]⟩∧dp ⟨[],[mS],[kX,h_],[r7,rm],[],[],[]⟩<dp ⟨[],[v2],[x1,x2],[A2,A3],[],[],[]⟩))))))))))))) (
 al (pp b0) [pC v0 x0 A0 A1]))
theorem Wi(al:PT)(x0:Int)(A0 A1:Nat→Int)(v0:V1)(h:Lf al x0 A0 A1 v0):aq auN 72 [.int .i64 4,v0.v] [pC v0 x0 A0 A1] al:=
 s8 (C:=cxO) Vo.aia Vo.hpD Vo.Nc ⟨[x0],[A0,A1],[],[],[v0],[],[],[]⟩ 1 Tryz.func72 (by kernel_rfl) h
def RY(al:PT)(x0 x1 x2:Int)(A0:Nat→Int)(v0:V1):Prop:=
 ax (0≤x2) (
 bt (((8≤x0)∨(x2<1))∨(4<x2)) (
 al (.tuple #[.pointer none,.int .i64 2]) []) (
 ∀b0:Nat,∃(Jm:Ext→Prop) (RZ:Ext→Nat),(∃(v2:V1) (x3 x4:Int) (A1:Nat→Int),x3=0∧v2=(⟨.slice none 0 0,rfl⟩:V1)∧v2=(⟨.slice none 0 0,rfl⟩:V1)∧x4=0∧(∀j,j<(ag x4)→A1 j=(fun _=>0) j)∧Jm ⟨[],[v2],[x3,x4],[A1],[],[],[]⟩)∧
 ∀(v2:V1) (x3 x4:Int) (A1:Nat→Int),Jm ⟨[],[v2],[x3,x4],[A1],[],[],[]⟩→
 bt (x3<x2) (
 ∀_:Nat,ax (0≤x4) (
 lp ((x4+1)*1) (
 ∀v3:V1,gS (x3+1) ((
 ∃(mS:V1) (pO wE:Int) (Pv:Nat→Int),pO=(x3+1)∧mS=v3∧mS=v3∧wE=(x4+1)∧(∀j,j<(ag wE)→Pv j=(aw A1 (ag x4) 1) j)∧Jm ⟨[],[mS],[pO,wE],[Pv],[],[],[]⟩∧RZ ⟨[],[mS],[pO,wE],[Pv],[],[],[]⟩<RZ ⟨[],[v2],[x3,x4],[A1],[],[],[]⟩))))) (
 ax ((x1<(-1))∨(0≤x2)) (
 bt ((x1<(-1))∨(x2≤x1)) (
 al (.tuple #[.pointer none,.int .i64 2]) []) (
 ax (0≤x2) (
 ∃(mR:Ext→Prop) (qx:Ext→Nat),(∃x5:Int,x5=0∧mR ⟨[],[],[x5],[],[],[],[]⟩)∧
 ∀x5:Int,mR ⟨[],[],[x5],[],[],[],[]⟩→
 bt (x5<x2) (
 ax (0≤x5) (
 bt (((A0 (ag x5))<1)∨(4<(A0 (ag x5)))) (
 al (.tuple #[.pointer none,.int .i64 2]) []) (
 gS (x5+1) ((
 ∃rq:Int,rq=(x5+1)∧mR ⟨[],[],[rq],[],[],[],[]⟩∧qx ⟨[],[],[rq],[],[],[],[]⟩<qx ⟨[],[],[x5],[],[],[],[]⟩))))) (
 Cl 117 [v0.v] [bh v0 x2 A0] fun x hs l=> ∃v3:V1,x=v3.v∧hs=l∧
 al (.tuple #[pp b0,.int .i64 0]) [])))))))
theorem aai(al:PT)(x0 x1 x2:Int)(A0:Nat→Int)(v0:V1)(h:RY al x0 x1 x2 A0 v0):aq auN 71 [.int .u8 x0,v0.v,.int .i64 x1] [bh v0 x2 A0] al:=
 s8 (C:=adW) Vo.aib Vo.adT Vo.Zk ⟨[x0,x1,x2],[A0],[],[],[v0],[],[],[]⟩ 0 Tryz.func71 (by kernel_rfl) h
def R0(al:PT)(x0:Int)(A0:Nat→Int)(v0:V1):Prop:=
 bt (xQ v0.v=true) (
 al (.slice none 0 0) [bh v0 x0 A0]) (
 ∀_:V1,ax (0≤x0) (
 ax (0≤x0) (
 lp x0 (
 ∀v2:V1,al (v2.v) [bh v0 x0 A0]))))
theorem aaj(al:PT)(x0:Int)(A0:Nat→Int)(v0:V1)(h:R0 al x0 A0 v0):aq auN 117 [v0.v] [bh v0 x0 A0] al:=
 s8 (C:=adW) [.vv 0] [.cC false 0 5 1 (.var 0) [⟨.int .u8,1,.cU 0⟩]] ⟨0,1,1,1,0,0,0⟩ ⟨[x0],[A0],[],[],[v0],[],[],[]⟩ 1 Tryz.func117 (by kernel_rfl) h
def R1(al:PT)(_ _ x2 _ x4 _ _ x7 _ _ _ _ _ _ dR bW dF:Int)(_ _ _ _ _ A5 A6 A7 A8:Nat→Int)(v0 v1 v2:V1):Prop:=
 ∀_ _ _ _ b4:Nat,Cl 70 [.int .i64 256,v0.v] [pD v0 dR A5] fun x hs l=> ∃cr:Int,x=(cN cr)∧hs=l∧
 ax (0≤dR) (
 bt ((256<dR)∨(4<x2)) (
 al (.tuple #[.pointer none,.int .i64 2]) []) (
 bt (x2=1) (
 Cl 71 [.int .u8 x4,v1.v,.int .i64 x7] [bh v1 bW A6] fun x hs l=> ∃dB cI:Int,x= .tuple #[(cN dB),.int .i64 cI]∧hs=l∧
 ax ((¬(cI=0))∨(0≤dF)) (
 bt ((¬(cI=0))∨(4<dF)) (
 al (.tuple #[.pointer none,.int .i64 2]) []) (
 Cl 72 [.int .i64 4,v2.v] [pC v2 dF A7 A8] fun x hs l=> ∃dz:Int,x=(cN dz)∧hs=l∧
 al (.tuple #[pp b4,.int .i64 0]) []))) (
 al (.tuple #[pp b4,.int .i64 0]) [])))
theorem aak(al:PT)(x0 x1 x2 x3 x4 x5 x6 x7 x8 x9 bE bO bT bL dR bW dF:Int)(A0 A1 A2 A3 A4 A5 A6 A7 A8:Nat→Int)(v0 v1 v2:V1)(h:R1 al x0 x1 x2 x3 x4 x5 x6 x7 x8 x9 bE bO bT bL dR bW dF A0 A1 A2 A3 A4 A5 A6 A7 A8 v0 v1 v2):aq auN 35 [.agg (.int .u8 x0::(.int .u8 x1::(aul (aj .u8 8 A0) (v0.v::(.int .u8 x2::(aul (aj .u8 16 A1) (.bool (!(x3==0))::(.int .u8 x4::(.int .u8 x5::(.int .u8 x6::(aul (aj .u8 32 A2) (aul (aj .u8 32 A3) (aul (aj .u8 32 A4) ([v1.v,.int .i64 x7,v2.v,.int .u64 x8,.int .u64 x9,.int .u64 bE,.int .u64 bO,.int .u64 bT,.int .u32 bL])))))))))))))).toArray] [pD v0 dR A5,bh v1 bW A6,pC v2 dF A7 A8] al:=
 s8 (C:=aie) Vo.aic Vo.adU Vo.Zl ⟨[x0,x1,x2,x3,x4,x5,x6,x7,x8,x9,bE,bO,bT,bL,dR,bW,dF],[A0,A1,A2,A3,A4,A5,A6,A7,A8],[],[],[v0,v1,v2],[],[],[]⟩ 0 Tryz.func35 (by kernel_rfl) h
end Go.RX.Vb
