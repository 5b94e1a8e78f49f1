/- Sums. -/
import Derived.Test.YtmgbbbmdbpbeeaaM25
open Go.IntKind renaming wrap → ae
open Go.Proofs.Try renaming prog → adE
open Int renaming toNat → ag
open List renaming append → ads
namespace Go.RX.Fq
open Go.RX Go.Proofs Go.RX.Fe Go.RX.Fg Go.RX.Fi Go.RX.Fj Go.RX.Fk Go.RX.Fl
set_option maxRecDepth 100000
def w7(ax:PT)(x0 x1:Int)(A0 A1:Nat→Int)(v0 v1 v2:V1):Prop:=
 ∀b0:Nat,Cl 60 [] [] fun x hs _=> ∃(b1:Nat) (v3 v4:V1) (A2 A3:Nat→Int),x= .pointer (some ⟨b1,0,none⟩)∧hs=[aq b1 true ([v3.v,v4.v,.int .i64 4,.int .i64 2,.int .i64 13,.int .i64 22,.int .i64 6,.int .i64 11,.int .i64 25,.int .i64 7,.int .i64 18,.int .i64 3,.int .i64 17,.int .i64 19,.int .i64 10]),au true 115 1 v3.v 8 (aK 8 [aJ .u32 1 A2]),au true 115 1 v4.v 64 (aK 64 [aJ .u32 1 A3])]∧
 Cl 61 [.pointer (some ⟨b1,0,none⟩),v0.v] [aq b1 true ([v3.v,v4.v,.int .i64 4,.int .i64 2,.int .i64 13,.int .i64 22,.int .i64 6,.int .i64 11,.int .i64 25,.int .i64 7,.int .i64 18,.int .i64 3,.int .i64 17,.int .i64 19,.int .i64 10]),au true 115 1 v3.v 8 (aK 8 [aJ .u32 1 A2]),au true 115 1 v4.v 64 (aK 64 [aJ .u32 1 A3]),au true 23 1 v0.v 2 [v1.v,v2.v],bi v1 x0 A0,bi v2 x1 A1] fun x hs _=> ∃(v5:V1) (A4:Nat→Int),x=v5.v∧hs=[au true 23 1 v0.v 2 [v1.v,v2.v],bi v1 x0 A0,bi v2 x1 A1,bn true v5 32 A4]∧
 ax (.agg (ads (aj .u8 32 A4) ([])).toArray) [bn true v5 32 A4,HP.emp,HP.emp,aq b0 true (ads (aj .u8 32 A4) ([])),au true 23 1 v0.v 2 [v1.v,v2.v],bi v1 x0 A0,bi v2 x1 A1]
theorem FY(ax:PT)(x0 x1:Int)(A0 A1:Nat→Int)(v0 v1 v2:V1)(h:w7 ax x0 x1 A0 A1 v0 v1 v2):ar adE 54 [v0.v] [au true 23 1 v0.v 2 [v1.v,v2.v],bi v1 x0 A0,bi v2 x1 A1] ax:=
 NQ (C:=Fq.cx) [.vv 0] [.bu true 0 23 1 (.lit 2) [{ck:=CK.qV [1,2],w:=1,a:= .lit 0}],.bu false 1 5 1 (.var 0) [⟨.int .u8,1,.aO 0⟩],.bu false 2 5 1 (.var 1) [⟨.int .u8,1,.aO 1⟩]] ⟨0,3,2,2,0,0,0⟩ ⟨[x0,x1],[A0,A1],[],[],[v0,v1,v2],[],[],[]⟩ Try.func54 (by kernel_rfl) h
def w9(ax:PT)(x0 x1 x2 x3:Int)(A0 A1 A2 A3:Nat→Int)(v0 v1 v2 v3 v4:V1):Prop:=
 ∀b0:Nat,Cl 60 [] [] fun x hs _=> ∃(b1:Nat) (v5 v6:V1) (A4 A5:Nat→Int),x= .pointer (some ⟨b1,0,none⟩)∧hs=[aq b1 true ([v5.v,v6.v,.int .i64 4,.int .i64 2,.int .i64 13,.int .i64 22,.int .i64 6,.int .i64 11,.int .i64 25,.int .i64 7,.int .i64 18,.int .i64 3,.int .i64 17,.int .i64 19,.int .i64 10]),au true 115 1 v5.v 8 (aK 8 [aJ .u32 1 A4]),au true 115 1 v6.v 64 (aK 64 [aJ .u32 1 A5])]∧
 Cl 61 [.pointer (some ⟨b1,0,none⟩),v0.v] [aq b1 true ([v5.v,v6.v,.int .i64 4,.int .i64 2,.int .i64 13,.int .i64 22,.int .i64 6,.int .i64 11,.int .i64 25,.int .i64 7,.int .i64 18,.int .i64 3,.int .i64 17,.int .i64 19,.int .i64 10]),au true 115 1 v5.v 8 (aK 8 [aJ .u32 1 A4]),au true 115 1 v6.v 64 (aK 64 [aJ .u32 1 A5]),au true 23 1 v0.v 4 [v1.v,v2.v,v3.v,v4.v],bi v1 x0 A0,bi v2 x1 A1,bi v3 x2 A2,bi v4 x3 A3] fun x hs _=> ∃(v7:V1) (A6:Nat→Int),x=v7.v∧hs=[au true 23 1 v0.v 4 [v1.v,v2.v,v3.v,v4.v],bi v1 x0 A0,bi v2 x1 A1,bi v3 x2 A2,bi v4 x3 A3,bn true v7 32 A6]∧
 ax (.agg (ads (aj .u8 32 A6) ([])).toArray) [bi v3 x2 A2,bi v4 x3 A3,bn true v7 32 A6,HP.emp,HP.emp,aq b0 true (ads (aj .u8 32 A6) ([])),au true 23 1 v0.v 4 [v1.v,v2.v,v3.v,v4.v],bi v1 x0 A0,bi v2 x1 A1]
theorem FZ(ax:PT)(x0 x1 x2 x3:Int)(A0 A1 A2 A3:Nat→Int)(v0 v1 v2 v3 v4:V1)(h:w9 ax x0 x1 x2 x3 A0 A1 A2 A3 v0 v1 v2 v3 v4):ar adE 54 [v0.v] [au true 23 1 v0.v 4 [v1.v,v2.v,v3.v,v4.v],bi v1 x0 A0,bi v2 x1 A1,bi v3 x2 A2,bi v4 x3 A3] ax:=
 NQ (C:=Fq.cx) [.vv 0] [.bu true 0 23 1 (.lit 4) [{ck:=CK.qV [1,2,3,4],w:=1,a:= .lit 0}],.bu false 1 5 1 (.var 0) [⟨.int .u8,1,.aO 0⟩],.bu false 2 5 1 (.var 1) [⟨.int .u8,1,.aO 1⟩],.bu false 3 5 1 (.var 2) [⟨.int .u8,1,.aO 2⟩],.bu false 4 5 1 (.var 3) [⟨.int .u8,1,.aO 3⟩]] ⟨0,5,4,4,0,0,0⟩ ⟨[x0,x1,x2,x3],[A0,A1,A2,A3],[],[],[v0,v1,v2,v3,v4],[],[],[]⟩ Try.func54 (by kernel_rfl) h
def w_(ax:PT)(x0 x1:Int)(A0 A1:Nat→Int)(v0 v1:V1)(b0:Nat):Prop:=
 ∀b1:Nat,Cl 62 [] [] fun x hs _=> ∃(b2:Nat) (v2 v3:V1) (A2 A3:Nat→Int),x= .pointer (some ⟨b2,0,none⟩)∧hs=[aq b2 true ([v2.v,v3.v,.int .i64 8,.int .i64 28,.int .i64 34,.int .i64 39,.int .i64 14,.int .i64 18,.int .i64 41,.int .i64 1,.int .i64 8,.int .i64 7,.int .i64 19,.int .i64 61,.int .i64 6]),au true 24 1 v2.v 8 (aK 8 [aJ .u64 1 A2]),au true 24 1 v3.v 80 (aK 80 [aJ .u64 1 A3])]∧
 Cl 63 [.pointer (some ⟨b2,0,none⟩),.slice (some ⟨b0,0,none⟩) 2 2] [aq b2 true ([v2.v,v3.v,.int .i64 8,.int .i64 28,.int .i64 34,.int .i64 39,.int .i64 14,.int .i64 18,.int .i64 41,.int .i64 1,.int .i64 8,.int .i64 7,.int .i64 19,.int .i64 61,.int .i64 6]),au true 24 1 v2.v 8 (aK 8 [aJ .u64 1 A2]),au true 24 1 v3.v 80 (aK 80 [aJ .u64 1 A3]),aq b0 true ([v0.v,v1.v]),bi v0 x0 A0,bi v1 x1 A1] fun x hs _=> ∃(v4:V1) (A4:Nat→Int),x=v4.v∧hs=[aq b0 true ([v0.v,v1.v]),bi v0 x0 A0,bi v1 x1 A1,bn true v4 64 A4]∧
 ax (.agg (ads (aj .u8 64 A4) ([])).toArray) [bn true v4 64 A4,HP.emp,HP.emp,aq b1 true (ads (aj .u8 64 A4) ([])),aq b0 true ([v0.v,v1.v]),bi v0 x0 A0,bi v1 x1 A1]
theorem F0(ax:PT)(x0 x1:Int)(A0 A1:Nat→Int)(v0 v1:V1)(b0:Nat)(h:w_ ax x0 x1 A0 A1 v0 v1 b0):ar adE 55 [.slice (some ⟨b0,0,none⟩) 2 2] [aq b0 true ([v0.v,v1.v]),bi v0 x0 A0,bi v1 x1 A1] ax:=
 NQ (C:=Fq.cx) [.sl 0 (.lit 0) 1 (.lit 2) (.lit 2)] [.row 0 true [.vv 0,.vv 1],.bu false 0 5 1 (.var 0) [⟨.int .u8,1,.aO 0⟩],.bu false 1 5 1 (.var 1) [⟨.int .u8,1,.aO 1⟩]] ⟨1,2,2,2,0,0,0⟩ ⟨[x0,x1],[A0,A1],[],[b0],[v0,v1],[],[],[]⟩ Try.func55 (by kernel_rfl) h
def xd(ax:PT)(x0 x1:Int)(A0 A1:Nat→Int)(v0 v1 v2:V1):Prop:=
 ∀b0:Nat,Cl 62 [] [] fun x hs _=> ∃(b1:Nat) (v3 v4:V1) (A2 A3:Nat→Int),x= .pointer (some ⟨b1,0,none⟩)∧hs=[aq b1 true ([v3.v,v4.v,.int .i64 8,.int .i64 28,.int .i64 34,.int .i64 39,.int .i64 14,.int .i64 18,.int .i64 41,.int .i64 1,.int .i64 8,.int .i64 7,.int .i64 19,.int .i64 61,.int .i64 6]),au true 24 1 v3.v 8 (aK 8 [aJ .u64 1 A2]),au true 24 1 v4.v 80 (aK 80 [aJ .u64 1 A3])]∧
 Cl 63 [.pointer (some ⟨b1,0,none⟩),v0.v] [aq b1 true ([v3.v,v4.v,.int .i64 8,.int .i64 28,.int .i64 34,.int .i64 39,.int .i64 14,.int .i64 18,.int .i64 41,.int .i64 1,.int .i64 8,.int .i64 7,.int .i64 19,.int .i64 61,.int .i64 6]),au true 24 1 v3.v 8 (aK 8 [aJ .u64 1 A2]),au true 24 1 v4.v 80 (aK 80 [aJ .u64 1 A3]),au true 23 1 v0.v 2 [v1.v,v2.v],bi v1 x0 A0,bi v2 x1 A1] fun x hs _=> ∃(v5:V1) (A4:Nat→Int),x=v5.v∧hs=[au true 23 1 v0.v 2 [v1.v,v2.v],bi v1 x0 A0,bi v2 x1 A1,bn true v5 64 A4]∧
 ax (.agg (ads (aj .u8 64 A4) ([])).toArray) [bn true v5 64 A4,HP.emp,HP.emp,aq b0 true (ads (aj .u8 64 A4) ([])),au true 23 1 v0.v 2 [v1.v,v2.v],bi v1 x0 A0,bi v2 x1 A1]
theorem F1(ax:PT)(x0 x1:Int)(A0 A1:Nat→Int)(v0 v1 v2:V1)(h:xd ax x0 x1 A0 A1 v0 v1 v2):ar adE 55 [v0.v] [au true 23 1 v0.v 2 [v1.v,v2.v],bi v1 x0 A0,bi v2 x1 A1] ax:=
 NQ (C:=Fq.cx) [.vv 0] [.bu true 0 23 1 (.lit 2) [{ck:=CK.qV [1,2],w:=1,a:= .lit 0}],.bu false 1 5 1 (.var 0) [⟨.int .u8,1,.aO 0⟩],.bu false 2 5 1 (.var 1) [⟨.int .u8,1,.aO 1⟩]] ⟨0,3,2,2,0,0,0⟩ ⟨[x0,x1],[A0,A1],[],[],[v0,v1,v2],[],[],[]⟩ Try.func55 (by kernel_rfl) h
def xe(ax:PT)(x0 x1 x2 x3:Int)(A0 A1 A2 A3:Nat→Int)(v0 v1 v2 v3 v4:V1):Prop:=
 ∀b0:Nat,Cl 62 [] [] fun x hs _=> ∃(b1:Nat) (v5 v6:V1) (A4 A5:Nat→Int),x= .pointer (some ⟨b1,0,none⟩)∧hs=[aq b1 true ([v5.v,v6.v,.int .i64 8,.int .i64 28,.int .i64 34,.int .i64 39,.int .i64 14,.int .i64 18,.int .i64 41,.int .i64 1,.int .i64 8,.int .i64 7,.int .i64 19,.int .i64 61,.int .i64 6]),au true 24 1 v5.v 8 (aK 8 [aJ .u64 1 A4]),au true 24 1 v6.v 80 (aK 80 [aJ .u64 1 A5])]∧
 Cl 63 [.pointer (some ⟨b1,0,none⟩),v0.v] [aq b1 true ([v5.v,v6.v,.int .i64 8,.int .i64 28,.int .i64 34,.int .i64 39,.int .i64 14,.int .i64 18,.int .i64 41,.int .i64 1,.int .i64 8,.int .i64 7,.int .i64 19,.int .i64 61,.int .i64 6]),au true 24 1 v5.v 8 (aK 8 [aJ .u64 1 A4]),au true 24 1 v6.v 80 (aK 80 [aJ .u64 1 A5]),au true 23 1 v0.v 4 [v1.v,v2.v,v3.v,v4.v],bi v1 x0 A0,bi v2 x1 A1,bi v3 x2 A2,bi v4 x3 A3] fun x hs _=> ∃(v7:V1) (A6:Nat→Int),x=v7.v∧hs=[au true 23 1 v0.v 4 [v1.v,v2.v,v3.v,v4.v],bi v1 x0 A0,bi v2 x1 A1,bi v3 x2 A2,bi v4 x3 A3,bn true v7 64 A6]∧
 ax (.agg (ads (aj .u8 64 A6) ([])).toArray) [bi v3 x2 A2,bi v4 x3 A3,bn true v7 64 A6,HP.emp,HP.emp,aq b0 true (ads (aj .u8 64 A6) ([])),au true 23 1 v0.v 4 [v1.v,v2.v,v3.v,v4.v],bi v1 x0 A0,bi v2 x1 A1]
theorem F2(ax:PT)(x0 x1 x2 x3:Int)(A0 A1 A2 A3:Nat→Int)(v0 v1 v2 v3 v4:V1)(h:xe ax x0 x1 x2 x3 A0 A1 A2 A3 v0 v1 v2 v3 v4):ar adE 55 [v0.v] [au true 23 1 v0.v 4 [v1.v,v2.v,v3.v,v4.v],bi v1 x0 A0,bi v2 x1 A1,bi v3 x2 A2,bi v4 x3 A3] ax:=
 NQ (C:=Fq.cx) [.vv 0] [.bu true 0 23 1 (.lit 4) [{ck:=CK.qV [1,2,3,4],w:=1,a:= .lit 0}],.bu false 1 5 1 (.var 0) [⟨.int .u8,1,.aO 0⟩],.bu false 2 5 1 (.var 1) [⟨.int .u8,1,.aO 1⟩],.bu false 3 5 1 (.var 2) [⟨.int .u8,1,.aO 2⟩],.bu false 4 5 1 (.var 3) [⟨.int .u8,1,.aO 3⟩]] ⟨0,5,4,4,0,0,0⟩ ⟨[x0,x1,x2,x3],[A0,A1,A2,A3],[],[],[v0,v1,v2,v3,v4],[],[],[]⟩ Try.func55 (by kernel_rfl) h
def uy(ax:PT)(x0 x1:Int)(A0 A1:Nat→Int)(v0 v1 v2:V1):Prop:=
 Cl 54 [v0.v] [au true 23 1 v0.v 2 [v1.v,v2.v],bi v1 x0 A0,bi v2 x1 A1] fun x hs l=> ∃A2:(Nat→Int),x= .agg (ads (aj .u8 32 A2) ([])).toArray∧hs=l∧
 ∀b0:Nat,ax (.slice (some ⟨b0,0,none⟩) 32 32) [au true 23 1 v0.v 2 [v1.v,v2.v],bi v1 x0 A0,bi v2 x1 A1,aq b0 true (ads (aj .u8 32 A2) ([]))]
theorem Dm(ax:PT)(x0 x1:Int)(A0 A1:Nat→Int)(v0 v1 v2:V1)(h:uy ax x0 x1 A0 A1 v0 v1 v2):ar adE 48 [.int .u8 1,v0.v] [au true 23 1 v0.v 2 [v1.v,v2.v],bi v1 x0 A0,bi v2 x1 A1] ax:=
 Bf (C:=Fq.cx) [.int .u8 (.lit 1),.vv 0] [.bu true 0 23 1 (.lit 2) [{ck:=CK.qV [1,2],w:=1,a:= .lit 0}],.bu false 1 5 1 (.var 0) [⟨.int .u8,1,.aO 0⟩],.bu false 2 5 1 (.var 1) [⟨.int .u8,1,.aO 1⟩]] ⟨0,3,2,2,0,0,0⟩ ⟨[x0,x1],[A0,A1],[],[],[v0,v1,v2],[],[],[]⟩ 4 Try.func48 (by kernel_rfl) h
def uz(ax:PT)(x0 x1 x2 x3:Int)(A0 A1 A2 A3:Nat→Int)(v0 v1 v2 v3 v4:V1):Prop:=
 Cl 54 [v0.v] [au true 23 1 v0.v 4 [v1.v,v2.v,v3.v,v4.v],bi v1 x0 A0,bi v2 x1 A1,bi v3 x2 A2,bi v4 x3 A3] fun x hs l=> ∃A4:(Nat→Int),x= .agg (ads (aj .u8 32 A4) ([])).toArray∧hs=l∧
 ∀b0:Nat,ax (.slice (some ⟨b0,0,none⟩) 32 32) [au true 23 1 v0.v 4 [v1.v,v2.v,v3.v,v4.v],bi v1 x0 A0,bi v2 x1 A1,bi v3 x2 A2,bi v4 x3 A3,aq b0 true (ads (aj .u8 32 A4) ([]))]
theorem Dn(ax:PT)(x0 x1 x2 x3:Int)(A0 A1 A2 A3:Nat→Int)(v0 v1 v2 v3 v4:V1)(h:uz ax x0 x1 x2 x3 A0 A1 A2 A3 v0 v1 v2 v3 v4):ar adE 48 [.int .u8 1,v0.v] [au true 23 1 v0.v 4 [v1.v,v2.v,v3.v,v4.v],bi v1 x0 A0,bi v2 x1 A1,bi v3 x2 A2,bi v4 x3 A3] ax:=
 Bf (C:=Fq.cx) [.int .u8 (.lit 1),.vv 0] [.bu true 0 23 1 (.lit 4) [{ck:=CK.qV [1,2,3,4],w:=1,a:= .lit 0}],.bu false 1 5 1 (.var 0) [⟨.int .u8,1,.aO 0⟩],.bu false 2 5 1 (.var 1) [⟨.int .u8,1,.aO 1⟩],.bu false 3 5 1 (.var 2) [⟨.int .u8,1,.aO 2⟩],.bu false 4 5 1 (.var 3) [⟨.int .u8,1,.aO 3⟩]] ⟨0,5,4,4,0,0,0⟩ ⟨[x0,x1,x2,x3],[A0,A1,A2,A3],[],[],[v0,v1,v2,v3,v4],[],[],[]⟩ 6 Try.func48 (by kernel_rfl) h
def uA(ax:PT)(x0 x1:Int)(A0 A1:Nat→Int)(v0 v1:V1)(b0:Nat):Prop:=
 Cl 55 [.slice (some ⟨b0,0,none⟩) 2 2] [aq b0 true ([v0.v,v1.v]),bi v0 x0 A0,bi v1 x1 A1] fun x hs l=> ∃A2:(Nat→Int),x= .agg (ads (aj .u8 64 A2) ([])).toArray∧hs=l∧
 ∀b1:Nat,ax (.slice (some ⟨b1,0,none⟩) 64 64) [aq b0 true ([v0.v,v1.v]),bi v0 x0 A0,bi v1 x1 A1,aq b1 true (ads (aj .u8 64 A2) ([]))]
theorem Dp(ax:PT)(x0 x1:Int)(A0 A1:Nat→Int)(v0 v1:V1)(b0:Nat)(h:uA ax x0 x1 A0 A1 v0 v1 b0):ar adE 48 [.int .u8 2,.slice (some ⟨b0,0,none⟩) 2 2] [aq b0 true ([v0.v,v1.v]),bi v0 x0 A0,bi v1 x1 A1] ax:=
 Bf (C:=Fq.cx) [.int .u8 (.lit 2),.sl 0 (.lit 0) 1 (.lit 2) (.lit 2)] [.row 0 true [.vv 0,.vv 1],.bu false 0 5 1 (.var 0) [⟨.int .u8,1,.aO 0⟩],.bu false 1 5 1 (.var 1) [⟨.int .u8,1,.aO 1⟩]] ⟨1,2,2,2,0,0,0⟩ ⟨[x0,x1],[A0,A1],[],[b0],[v0,v1],[],[],[]⟩ 4 Try.func48 (by kernel_rfl) h
def uB(ax:PT)(x0 x1:Int)(A0 A1:Nat→Int)(v0 v1 v2:V1):Prop:=
 Cl 55 [v0.v] [au true 23 1 v0.v 2 [v1.v,v2.v],bi v1 x0 A0,bi v2 x1 A1] fun x hs l=> ∃A2:(Nat→Int),x= .agg (ads (aj .u8 64 A2) ([])).toArray∧hs=l∧
 ∀b0:Nat,ax (.slice (some ⟨b0,0,none⟩) 64 64) [au true 23 1 v0.v 2 [v1.v,v2.v],bi v1 x0 A0,bi v2 x1 A1,aq b0 true (ads (aj .u8 64 A2) ([]))]
theorem Dq(ax:PT)(x0 x1:Int)(A0 A1:Nat→Int)(v0 v1 v2:V1)(h:uB ax x0 x1 A0 A1 v0 v1 v2):ar adE 48 [.int .u8 2,v0.v] [au true 23 1 v0.v 2 [v1.v,v2.v],bi v1 x0 A0,bi v2 x1 A1] ax:=
 Bf (C:=Fq.cx) [.int .u8 (.lit 2),.vv 0] [.bu true 0 23 1 (.lit 2) [{ck:=CK.qV [1,2],w:=1,a:= .lit 0}],.bu false 1 5 1 (.var 0) [⟨.int .u8,1,.aO 0⟩],.bu false 2 5 1 (.var 1) [⟨.int .u8,1,.aO 1⟩]] ⟨0,3,2,2,0,0,0⟩ ⟨[x0,x1],[A0,A1],[],[],[v0,v1,v2],[],[],[]⟩ 4 Try.func48 (by kernel_rfl) h
def uC(ax:PT)(x0 x1 x2 x3:Int)(A0 A1 A2 A3:Nat→Int)(v0 v1 v2 v3 v4:V1):Prop:=
 Cl 55 [v0.v] [au true 23 1 v0.v 4 [v1.v,v2.v,v3.v,v4.v],bi v1 x0 A0,bi v2 x1 A1,bi v3 x2 A2,bi v4 x3 A3] fun x hs l=> ∃A4:(Nat→Int),x= .agg (ads (aj .u8 64 A4) ([])).toArray∧hs=l∧
 ∀b0:Nat,ax (.slice (some ⟨b0,0,none⟩) 64 64) [au true 23 1 v0.v 4 [v1.v,v2.v,v3.v,v4.v],bi v1 x0 A0,bi v2 x1 A1,bi v3 x2 A2,bi v4 x3 A3,aq b0 true (ads (aj .u8 64 A4) ([]))]
theorem Dr(ax:PT)(x0 x1 x2 x3:Int)(A0 A1 A2 A3:Nat→Int)(v0 v1 v2 v3 v4:V1)(h:uC ax x0 x1 x2 x3 A0 A1 A2 A3 v0 v1 v2 v3 v4):ar adE 48 [.int .u8 2,v0.v] [au true 23 1 v0.v 4 [v1.v,v2.v,v3.v,v4.v],bi v1 x0 A0,bi v2 x1 A1,bi v3 x2 A2,bi v4 x3 A3] ax:=
 Bf (C:=Fq.cx) [.int .u8 (.lit 2),.vv 0] [.bu true 0 23 1 (.lit 4) [{ck:=CK.qV [1,2,3,4],w:=1,a:= .lit 0}],.bu false 1 5 1 (.var 0) [⟨.int .u8,1,.aO 0⟩],.bu false 2 5 1 (.var 1) [⟨.int .u8,1,.aO 1⟩],.bu false 3 5 1 (.var 2) [⟨.int .u8,1,.aO 2⟩],.bu false 4 5 1 (.var 3) [⟨.int .u8,1,.aO 3⟩]] ⟨0,5,4,4,0,0,0⟩ ⟨[x0,x1,x2,x3],[A0,A1,A2,A3],[],[],[v0,v1,v2,v3,v4],[],[],[]⟩ 6 Try.func48 (by kernel_rfl) h
def rN(ax:PT)(A0:Nat→Int)(_:V1):Prop:=
 ∃post,Bj adE 65 [.int .i64 128] [] post∧
 ∀x hs,post x hs→∃(v1:V1) (x0:Int) (A1:Nat→Int),x=v1.v∧hs=[bo v1 x0 A1]∧
 aw (128≤x0) (
 ax ((aC 1 v1.v 0 128 (some 128))) [bo v1 x0 (aA (aA (aA (aA (aA (aA (aA (aA A1 0 1 A0) 1 1 (aA A1 0 1 A0)) 2 2 (aA (aA A1 0 1 A0) 1 1 (aA A1 0 1 A0))) 4 4 (aA (aA (aA A1 0 1 A0) 1 1 (aA A1 0 1 A0)) 2 2 (aA (aA A1 0 1 A0) 1 1 (aA A1 0 1 A0)))) 8 8 (aA (aA (aA (aA A1 0 1 A0) 1 1 (aA A1 0 1 A0)) 2 2 (aA (aA A1 0 1 A0) 1 1 (aA A1 0 1 A0))) 4 4 (aA (aA (aA A1 0 1 A0) 1 1 (aA A1 0 1 A0)) 2 2 (aA (aA A1 0 1 A0) 1 1 (aA A1 0 1 A0))))) 16 16 (aA (aA (aA (aA (aA A1 0 1 A0) 1 1 (aA A1 0 1 A0)) 2 2 (aA (aA A1 0 1 A0) 1 1 (aA A1 0 1 A0))) 4 4 (aA (aA (aA A1 0 1 A0) 1 1 (aA A1 0 1 A0)) 2 2 (aA (aA A1 0 1 A0) 1 1 (aA A1 0 1 A0)))) 8 8 (aA (aA (aA (aA A1 0 1 A0) 1 1 (aA A1 0 1 A0)) 2 2 (aA (aA A1 0 1 A0) 1 1 (aA A1 0 1 A0))) 4 4 (aA (aA (aA A1 0 1 A0) 1 1 (aA A1 0 1 A0)) 2 2 (aA (aA A1 0 1 A0) 1 1 (aA A1 0 1 A0)))))) 32 32 (aA (aA (aA (aA (aA (aA A1 0 1 A0) 1 1 (aA A1 0 1 A0)) 2 2 (aA (aA A1 0 1 A0) 1 1 (aA A1 0 1 A0))) 4 4 (aA (aA (aA A1 0 1 A0) 1 1 (aA A1 0 1 A0)) 2 2 (aA (aA A1 0 1 A0) 1 1 (aA A1 0 1 A0)))) 8 8 (aA (aA (aA (aA A1 0 1 A0) 1 1 (aA A1 0 1 A0)) 2 2 (aA (aA A1 0 1 A0) 1 1 (aA A1 0 1 A0))) 4 4 (aA (aA (aA A1 0 1 A0) 1 1 (aA A1 0 1 A0)) 2 2 (aA (aA A1 0 1 A0) 1 1 (aA A1 0 1 A0))))) 16 16 (aA (aA (aA (aA (aA A1 0 1 A0) 1 1 (aA A1 0 1 A0)) 2 2 (aA (aA A1 0 1 A0) 1 1 (aA A1 0 1 A0))) 4 4 (aA (aA (aA A1 0 1 A0) 1 1 (aA A1 0 1 A0)) 2 2 (aA (aA A1 0 1 A0) 1 1 (aA A1 0 1 A0)))) 8 8 (aA (aA (aA (aA A1 0 1 A0) 1 1 (aA A1 0 1 A0)) 2 2 (aA (aA A1 0 1 A0) 1 1 (aA A1 0 1 A0))) 4 4 (aA (aA (aA A1 0 1 A0) 1 1 (aA A1 0 1 A0)) 2 2 (aA (aA A1 0 1 A0) 1 1 (aA A1 0 1 A0))))))) 64 64 (aA (aA (aA (aA (aA (aA (aA A1 0 1 A0) 1 1 (aA A1 0 1 A0)) 2 2 (aA (aA A1 0 1 A0) 1 1 (aA A1 0 1 A0))) 4 4 (aA (aA (aA A1 0 1 A0) 1 1 (aA A1 0 1 A0)) 2 2 (aA (aA A1 0 1 A0) 1 1 (aA A1 0 1 A0)))) 8 8 (aA (aA (aA (aA A1 0 1 A0) 1 1 (aA A1 0 1 A0)) 2 2 (aA (aA A1 0 1 A0) 1 1 (aA A1 0 1 A0))) 4 4 (aA (aA (aA A1 0 1 A0) 1 1 (aA A1 0 1 A0)) 2 2 (aA (aA A1 0 1 A0) 1 1 (aA A1 0 1 A0))))) 16 16 (aA (aA (aA (aA (aA A1 0 1 A0) 1 1 (aA A1 0 1 A0)) 2 2 (aA (aA A1 0 1 A0) 1 1 (aA A1 0 1 A0))) 4 4 (aA (aA (aA A1 0 1 A0) 1 1 (aA A1 0 1 A0)) 2 2 (aA (aA A1 0 1 A0) 1 1 (aA A1 0 1 A0)))) 8 8 (aA (aA (aA (aA A1 0 1 A0) 1 1 (aA A1 0 1 A0)) 2 2 (aA (aA A1 0 1 A0) 1 1 (aA A1 0 1 A0))) 4 4 (aA (aA (aA A1 0 1 A0) 1 1 (aA A1 0 1 A0)) 2 2 (aA (aA A1 0 1 A0) 1 1 (aA A1 0 1 A0)))))) 32 32 (aA (aA (aA (aA (aA (aA A1 0 1 A0) 1 1 (aA A1 0 1 A0)) 2 2 (aA (aA A1 0 1 A0) 1 1 (aA A1 0 1 A0))) 4 4 (aA (aA (aA A1 0 1 A0) 1 1 (aA A1 0 1 A0)) 2 2 (aA (aA A1 0 1 A0) 1 1 (aA A1 0 1 A0)))) 8 8 (aA (aA (aA (aA A1 0 1 A0) 1 1 (aA A1 0 1 A0)) 2 2 (aA (aA A1 0 1 A0) 1 1 (aA A1 0 1 A0))) 4 4 (aA (aA (aA A1 0 1 A0) 1 1 (aA A1 0 1 A0)) 2 2 (aA (aA A1 0 1 A0) 1 1 (aA A1 0 1 A0))))) 16 16 (aA (aA (aA (aA (aA A1 0 1 A0) 1 1 (aA A1 0 1 A0)) 2 2 (aA (aA A1 0 1 A0) 1 1 (aA A1 0 1 A0))) 4 4 (aA (aA (aA A1 0 1 A0) 1 1 (aA A1 0 1 A0)) 2 2 (aA (aA A1 0 1 A0) 1 1 (aA A1 0 1 A0)))) 8 8 (aA (aA (aA (aA A1 0 1 A0) 1 1 (aA A1 0 1 A0)) 2 2 (aA (aA A1 0 1 A0) 1 1 (aA A1 0 1 A0))) 4 4 (aA (aA (aA A1 0 1 A0) 1 1 (aA A1 0 1 A0)) 2 2 (aA (aA A1 0 1 A0) 1 1 (aA A1 0 1 A0))))))))])
theorem Bk(ax:PT)(A0:Nat→Int)(v0:V1)(h:rN ax A0 v0):ar adE 57 [v0.v,.int .i64 128] [bn false v0 1 A0] ax:=
 s5 (C:=Fq.cx) [.vv 0,.int .i64 (.lit 128)] [.bu false 0 5 1 (.lit 1) [⟨.int .u8,1,.aO 0⟩]] ⟨0,1,0,1,0,0,0⟩ ⟨[],[A0],[],[],[v0],[],[],[]⟩ 0 1 Try.func57 (by kernel_rfl) h
def Ds(ax:PT)(x0 x1:Int)(A0:Nat→Int)(v0:V1):Prop:=
 aw (0≤x1) (
 aZ (64<x1) (
 ∀b0:Nat,Cl 48 [.int .u8 1,.slice (some ⟨b0,0,none⟩) 1 1] [aq b0 true ([v0.v]),bi v0 x1 A0] fun x hs l=> ∃(v1:V1) (x2:Int) (A1:Nat→Int),x=v1.v∧hs=l++[bo v1 x2 A1]∧
 ∀b1:Nat,Cl 57 [.slice (some ⟨b1,0,none⟩) 1 1,.int .i64 64] [aq b1 true ([.int .u8 x0])] fun x hs l=> ∃(v2:V1) (x3:Int) (A2:Nat→Int),x=v2.v∧hs=l++[bo v2 x3 A2]∧
 aw (0≤x2) (
 ∃(jk:Ext→Prop) (lA:Ext→Nat),(∃(x4:Int) (A3:Nat→Int),x4=0∧(∀j,j<(ag x3)→A3 j=A2 j)∧jk ⟨[],[],[x4],[A3],[],[],[]⟩)∧
 ∀(x4:Int) (A3:Nat→Int),jk ⟨[],[],[x4],[A3],[],[],[]⟩→
 aZ (x4<x2) (
 aw (0≤x4) (
 aw (x4<x3) (
 eJ (x4+1) ((
 ∃(eW:Int) (oN:Nat→Int),eW=(x4+1)∧(∀j,j<(ag x3)→oN j=(ao A3 (ag x4) (ak .aD .u8 (A3 (ag x4)) (A1 (ag x4)))) j)∧jk ⟨[],[],[eW],[oN],[],[],[]⟩∧lA ⟨[],[],[eW],[oN],[],[],[]⟩<lA ⟨[],[],[x4],[A3],[],[],[]⟩))))) (
 ax (v2.v) [bo v2 x3 A3]))) (
 ∀b0:Nat,Cl 57 [.slice (some ⟨b0,0,none⟩) 1 1,.int .i64 64] [aq b0 true ([.int .u8 x0])] fun x hs l=> ∃(v1:V1) (x2:Int) (A1:Nat→Int),x=v1.v∧hs=l++[bo v1 x2 A1]∧
 ∃(jk:Ext→Prop) (lA:Ext→Nat),(∃(x3:Int) (A2:Nat→Int),x3=0∧(∀j,j<(ag x2)→A2 j=A1 j)∧jk ⟨[],[],[x3],[A2],[],[],[]⟩)∧
 ∀(x3:Int) (A2:Nat→Int),jk ⟨[],[],[x3],[A2],[],[],[]⟩→
 aZ (x3<x1) (
 aw (0≤x3) (
 aw (x3<x2) (
 eJ (x3+1) ((
 ∃(fO:Int) (iG:Nat→Int),fO=(x3+1)∧(∀j,j<(ag x2)→iG j=(ao A2 (ag x3) (ak .aD .u8 (A2 (ag x3)) (A0 (ag x3)))) j)∧jk ⟨[],[],[fO],[iG],[],[],[]⟩∧lA ⟨[],[],[fO],[iG],[],[],[]⟩<lA ⟨[],[],[x3],[A2],[],[],[]⟩))))) (
 ax (v1.v) [bo v1 x2 A2])))
theorem Lg(ax:PT)(x0 x1:Int)(A0:Nat→Int)(v0:V1)(h:Ds ax x0 x1 A0 v0):ar adE 49 [.int .u8 1,v0.v,.int .u8 x0] [bi v0 x1 A0] ax:=
 s5 (C:=Fq.cx) [.int .u8 (.lit 1),.vv 0,.int .u8 (.var 0)] [.bu false 0 5 1 (.var 1) [⟨.int .u8,1,.aO 0⟩]] ⟨0,1,2,1,0,0,0⟩ ⟨[x0,x1],[A0],[],[],[v0],[],[],[]⟩ 0 1 Try.func49 (by kernel_rfl) h
def Dt(ax:PT)(x0 x1:Int)(A0:Nat→Int)(v0:V1):Prop:=
 aw (0≤x1) (
 aZ (128<x1) (
 ∀b0:Nat,Cl 48 [.int .u8 2,.slice (some ⟨b0,0,none⟩) 1 1] [aq b0 true ([v0.v]),bi v0 x1 A0] fun x hs l=> ∃(v1:V1) (x2:Int) (A1:Nat→Int),x=v1.v∧hs=l++[bo v1 x2 A1]∧
 ∀b1:Nat,Cl 57 [.slice (some ⟨b1,0,none⟩) 1 1,.int .i64 128] [aq b1 true ([.int .u8 x0])] fun x hs l=> ∃(v2:V1) (x3:Int) (A2:Nat→Int),x=v2.v∧hs=l++[bo v2 x3 A2]∧
 aw (0≤x2) (
 ∃(jk:Ext→Prop) (lA:Ext→Nat),(∃(x4:Int) (A3:Nat→Int),x4=0∧(∀j,j<(ag x3)→A3 j=A2 j)∧jk ⟨[],[],[x4],[A3],[],[],[]⟩)∧
 ∀(x4:Int) (A3:Nat→Int),jk ⟨[],[],[x4],[A3],[],[],[]⟩→
 aZ (x4<x2) (
 aw (0≤x4) (
 aw (x4<x3) (
 eJ (x4+1) ((
 ∃(eW:Int) (oN:Nat→Int),eW=(x4+1)∧(∀j,j<(ag x3)→oN j=(ao A3 (ag x4) (ak .aD .u8 (A3 (ag x4)) (A1 (ag x4)))) j)∧jk ⟨[],[],[eW],[oN],[],[],[]⟩∧lA ⟨[],[],[eW],[oN],[],[],[]⟩<lA ⟨[],[],[x4],[A3],[],[],[]⟩))))) (
 ax (v2.v) [bo v2 x3 A3]))) (
 ∀b0:Nat,Cl 57 [.slice (some ⟨b0,0,none⟩) 1 1,.int .i64 128] [aq b0 true ([.int .u8 x0])] fun x hs l=> ∃(v1:V1) (x2:Int) (A1:Nat→Int),x=v1.v∧hs=l++[bo v1 x2 A1]∧
 ∃(jk:Ext→Prop) (lA:Ext→Nat),(∃(x3:Int) (A2:Nat→Int),x3=0∧(∀j,j<(ag x2)→A2 j=A1 j)∧jk ⟨[],[],[x3],[A2],[],[],[]⟩)∧
 ∀(x3:Int) (A2:Nat→Int),jk ⟨[],[],[x3],[A2],[],[],[]⟩→
 aZ (x3<x1) (
 aw (0≤x3) (
 aw (x3<x2) (
 eJ (x3+1) ((
 ∃(fO:Int) (iG:Nat→Int),fO=(x3+1)∧(∀j,j<(ag x2)→iG j=(ao A2 (ag x3) (ak .aD .u8 (A2 (ag x3)) (A0 (ag x3)))) j)∧jk ⟨[],[],[fO],[iG],[],[],[]⟩∧lA ⟨[],[],[fO],[iG],[],[],[]⟩<lA ⟨[],[],[x3],[A2],[],[],[]⟩))))) (
 ax (v1.v) [bo v1 x2 A2])))
theorem Lh(ax:PT)(x0 x1:Int)(A0:Nat→Int)(v0:V1)(h:Dt ax x0 x1 A0 v0):ar adE 49 [.int .u8 2,v0.v,.int .u8 x0] [bi v0 x1 A0] ax:=
 s5 (C:=Fq.cx) [.int .u8 (.lit 2),.vv 0,.int .u8 (.var 0)] [.bu false 0 5 1 (.var 1) [⟨.int .u8,1,.aO 0⟩]] ⟨0,1,2,1,0,0,0⟩ ⟨[x0,x1],[A0],[],[],[v0],[],[],[]⟩ 0 1 Try.func49 (by kernel_rfl) h
def Af(ax:PT)(x0:Int):Prop:=
 ∀b0:Nat,Cl 57 [.slice (some ⟨b0,0,none⟩) 1 1,.int .i64 64] [aq b0 true ([.int .u8 x0])] fun x hs l=> ∃(v0:V1) (x1:Int) (A0:Nat→Int),x=v0.v∧hs=l++[bo v0 x1 A0]∧
 ∃(bN:Ext→Prop) (_:Ext→Nat),(∃(x2:Int) (A1:Nat→Int),x2=0∧(∀j,j<(ag x1)→A1 j=A0 j)∧bN ⟨[],[],[x2],[A1],[],[],[]⟩)∧
 ∀(x2:Int) (A1:Nat→Int),bN ⟨[],[],[x2],[A1],[],[],[]⟩→
 aZ (x2<0) (
 False) (
 ax (v0.v) [bo v0 x1 A1])
theorem Jb(ax:PT)(x0:Int)(h:Af ax x0):ar adE 49 [.int .u8 1,.slice none 0 0,.int .u8 x0] [] ax:=
 s5 (C:=Fq.cx) [.int .u8 (.lit 1),.cC,.int .u8 (.var 0)] [] ⟨0,0,1,0,0,0,0⟩ ⟨[x0],[],[],[],[],[],[],[]⟩ 0 1 Try.func49 (by kernel_rfl) h
def Ag(ax:PT)(x0:Int):Prop:=
 ∀b0:Nat,Cl 57 [.slice (some ⟨b0,0,none⟩) 1 1,.int .i64 128] [aq b0 true ([.int .u8 x0])] fun x hs l=> ∃(v0:V1) (x1:Int) (A0:Nat→Int),x=v0.v∧hs=l++[bo v0 x1 A0]∧
 ∃(bN:Ext→Prop) (_:Ext→Nat),(∃(x2:Int) (A1:Nat→Int),x2=0∧(∀j,j<(ag x1)→A1 j=A0 j)∧bN ⟨[],[],[x2],[A1],[],[],[]⟩)∧
 ∀(x2:Int) (A1:Nat→Int),bN ⟨[],[],[x2],[A1],[],[],[]⟩→
 aZ (x2<0) (
 False) (
 ax (v0.v) [bo v0 x1 A1])
theorem Jc(ax:PT)(x0:Int)(h:Ag ax x0):ar adE 49 [.int .u8 2,.slice none 0 0,.int .u8 x0] [] ax:=
 s5 (C:=Fq.cx) [.int .u8 (.lit 2),.cC,.int .u8 (.var 0)] [] ⟨0,0,1,0,0,0,0⟩ ⟨[x0],[],[],[],[],[],[],[]⟩ 0 1 Try.func49 (by kernel_rfl) h
def uD(ax:PT)(x0:Int)(A0:Nat→Int)(v0:V1)(b0:Nat):Prop:=
 Cl 49 [.int .u8 1,.slice none 0 0,.int .u8 54] [] fun x hs _=> ∃(v1:V1) (x1:Int) (A1:Nat→Int),x=v1.v∧hs=[bo v1 x1 A1]∧
 ∀(_:Nat) (v2:V1),Cl 48 [.int .u8 1,v2.v] [au true 23 1 v2.v 2 [v1.v,v0.v],bo v1 x1 A1,bi v0 x0 A0] fun x hs l=> ∃(v3:V1) (x2:Int) (A2:Nat→Int),x=v3.v∧hs=l++[bo v3 x2 A2]∧
 Cl 49 [.int .u8 1,.slice none 0 0,.int .u8 92] [] fun x hs _=> ∃(v4:V1) (x3:Int) (A3:Nat→Int),x=v4.v∧hs=[bo v4 x3 A3]∧
 ∀b2:Nat,Cl 48 [.int .u8 1,.slice (some ⟨b2,0,none⟩) 2 2] [aq b2 true ([v4.v,v3.v]),bo v4 x3 A3,bo v3 x2 A2] fun x hs l=> ∃(v5:V1) (x4:Int) (A4:Nat→Int),x=v5.v∧hs=l++[bo v5 x4 A4]∧
 ax (v5.v) [aq b0 true ([v0.v]),bo v5 x4 A4]
theorem Du(ax:PT)(x0:Int)(A0:Nat→Int)(v0:V1)(b0:Nat)(h:uD ax x0 A0 v0 b0):ar adE 31 [.int .u8 1,.slice none 0 0,.slice (some ⟨b0,0,none⟩) 1 1] [aq b0 true ([v0.v]),bi v0 x0 A0] ax:=
 s5 (C:=Fq.cx) [.int .u8 (.lit 1),.cC,.sl 0 (.lit 0) 1 (.lit 1) (.lit 1)] [.row 0 true [.vv 0],.bu false 0 5 1 (.var 0) [⟨.int .u8,1,.aO 0⟩]] ⟨1,1,1,1,0,0,0⟩ ⟨[x0],[A0],[],[b0],[v0],[],[],[]⟩ 1 1 Try.func31 (by kernel_rfl) h
def xf(ax:PT)(x0 x1 x2 x3:Int)(A0 A1 A2 A3:Nat→Int)(v0 v1 v2 v3:V1)(b0:Nat):Prop:=
 Cl 49 [.int .u8 1,v3.v,.int .u8 54] [bi v3 x3 A3] fun x hs l=> ∃(v4:V1) (x4:Int) (A4:Nat→Int),x=v4.v∧hs=l++[bo v4 x4 A4]∧
 ∀(_:Nat) (v5:V1),Cl 48 [.int .u8 1,v5.v] [au true 23 1 v5.v 4 [v4.v,v0.v,v1.v,v2.v],bo v4 x4 A4,bi v0 x0 A0,bi v1 x1 A1,bi v2 x2 A2] fun x hs l=> ∃(v6:V1) (x5:Int) (A5:Nat→Int),x=v6.v∧hs=l++[bo v6 x5 A5]∧
 Cl 49 [.int .u8 1,v3.v,.int .u8 92] [bi v3 x3 A3] fun x hs l=> ∃(v7:V1) (x6:Int) (A6:Nat→Int),x=v7.v∧hs=l++[bo v7 x6 A6]∧
 ∀b2:Nat,Cl 48 [.int .u8 1,.slice (some ⟨b2,0,none⟩) 2 2] [aq b2 true ([v7.v,v6.v]),bo v7 x6 A6,bo v6 x5 A5] fun x hs l=> ∃(v8:V1) (x7:Int) (A7:Nat→Int),x=v8.v∧hs=l++[bo v8 x7 A7]∧
 ax (v8.v) [aq b0 true ([v0.v,v1.v,v2.v]),bo v8 x7 A7]
theorem F3(ax:PT)(x0 x1 x2 x3:Int)(A0 A1 A2 A3:Nat→Int)(v0 v1 v2 v3:V1)(b0:Nat)(h:xf ax x0 x1 x2 x3 A0 A1 A2 A3 v0 v1 v2 v3 b0):ar adE 31 [.int .u8 1,v3.v,.slice (some ⟨b0,0,none⟩) 3 3] [aq b0 true ([v0.v,v1.v,v2.v]),bi v0 x0 A0,bi v1 x1 A1,bi v2 x2 A2,bi v3 x3 A3] ax:=
 s5 (C:=Fq.cx) [.int .u8 (.lit 1),.vv 3,.sl 0 (.lit 0) 1 (.lit 3) (.lit 3)] [.row 0 true [.vv 0,.vv 1,.vv 2],.bu false 0 5 1 (.var 0) [⟨.int .u8,1,.aO 0⟩],.bu false 1 5 1 (.var 1) [⟨.int .u8,1,.aO 1⟩],.bu false 2 5 1 (.var 2) [⟨.int .u8,1,.aO 2⟩],.bu false 3 5 1 (.var 3) [⟨.int .u8,1,.aO 3⟩]] ⟨1,4,4,4,0,0,0⟩ ⟨[x0,x1,x2,x3],[A0,A1,A2,A3],[],[b0],[v0,v1,v2,v3],[],[],[]⟩ 1 1 Try.func31 (by kernel_rfl) h
def uE(ax:PT)(x0:Int)(A0:Nat→Int)(v0:V1)(b0:Nat):Prop:=
 Cl 49 [.int .u8 2,.slice none 0 0,.int .u8 54] [] fun x hs _=> ∃(v1:V1) (x1:Int) (A1:Nat→Int),x=v1.v∧hs=[bo v1 x1 A1]∧
 ∀(_:Nat) (v2:V1),Cl 48 [.int .u8 2,v2.v] [au true 23 1 v2.v 2 [v1.v,v0.v],bo v1 x1 A1,bi v0 x0 A0] fun x hs l=> ∃(v3:V1) (x2:Int) (A2:Nat→Int),x=v3.v∧hs=l++[bo v3 x2 A2]∧
 Cl 49 [.int .u8 2,.slice none 0 0,.int .u8 92] [] fun x hs _=> ∃(v4:V1) (x3:Int) (A3:Nat→Int),x=v4.v∧hs=[bo v4 x3 A3]∧
 ∀b2:Nat,Cl 48 [.int .u8 2,.slice (some ⟨b2,0,none⟩) 2 2] [aq b2 true ([v4.v,v3.v]),bo v4 x3 A3,bo v3 x2 A2] fun x hs l=> ∃(v5:V1) (x4:Int) (A4:Nat→Int),x=v5.v∧hs=l++[bo v5 x4 A4]∧
 ax (v5.v) [aq b0 true ([v0.v]),bo v5 x4 A4]
theorem Dv(ax:PT)(x0:Int)(A0:Nat→Int)(v0:V1)(b0:Nat)(h:uE ax x0 A0 v0 b0):ar adE 31 [.int .u8 2,.slice none 0 0,.slice (some ⟨b0,0,none⟩) 1 1] [aq b0 true ([v0.v]),bi v0 x0 A0] ax:=
 s5 (C:=Fq.cx) [.int .u8 (.lit 2),.cC,.sl 0 (.lit 0) 1 (.lit 1) (.lit 1)] [.row 0 true [.vv 0],.bu false 0 5 1 (.var 0) [⟨.int .u8,1,.aO 0⟩]] ⟨1,1,1,1,0,0,0⟩ ⟨[x0],[A0],[],[b0],[v0],[],[],[]⟩ 1 1 Try.func31 (by kernel_rfl) h
def xg(ax:PT)(x0 x1 x2 x3:Int)(A0 A1 A2 A3:Nat→Int)(v0 v1 v2 v3:V1)(b0:Nat):Prop:=
 Cl 49 [.int .u8 2,v3.v,.int .u8 54] [bi v3 x3 A3] fun x hs l=> ∃(v4:V1) (x4:Int) (A4:Nat→Int),x=v4.v∧hs=l++[bo v4 x4 A4]∧
 ∀(_:Nat) (v5:V1),Cl 48 [.int .u8 2,v5.v] [au true 23 1 v5.v 4 [v4.v,v0.v,v1.v,v2.v],bo v4 x4 A4,bi v0 x0 A0,bi v1 x1 A1,bi v2 x2 A2] fun x hs l=> ∃(v6:V1) (x5:Int) (A5:Nat→Int),x=v6.v∧hs=l++[bo v6 x5 A5]∧
 Cl 49 [.int .u8 2,v3.v,.int .u8 92] [bi v3 x3 A3] fun x hs l=> ∃(v7:V1) (x6:Int) (A6:Nat→Int),x=v7.v∧hs=l++[bo v7 x6 A6]∧
 ∀b2:Nat,Cl 48 [.int .u8 2,.slice (some ⟨b2,0,none⟩) 2 2] [aq b2 true ([v7.v,v6.v]),bo v7 x6 A6,bo v6 x5 A5] fun x hs l=> ∃(v8:V1) (x7:Int) (A7:Nat→Int),x=v8.v∧hs=l++[bo v8 x7 A7]∧
 ax (v8.v) [aq b0 true ([v0.v,v1.v,v2.v]),bo v8 x7 A7]
theorem F4(ax:PT)(x0 x1 x2 x3:Int)(A0 A1 A2 A3:Nat→Int)(v0 v1 v2 v3:V1)(b0:Nat)(h:xg ax x0 x1 x2 x3 A0 A1 A2 A3 v0 v1 v2 v3 b0):ar adE 31 [.int .u8 2,v3.v,.slice (some ⟨b0,0,none⟩) 3 3] [aq b0 true ([v0.v,v1.v,v2.v]),bi v0 x0 A0,bi v1 x1 A1,bi v2 x2 A2,bi v3 x3 A3] ax:=
 s5 (C:=Fq.cx) [.int .u8 (.lit 2),.vv 3,.sl 0 (.lit 0) 1 (.lit 3) (.lit 3)] [.row 0 true [.vv 0,.vv 1,.vv 2],.bu false 0 5 1 (.var 0) [⟨.int .u8,1,.aO 0⟩],.bu false 1 5 1 (.var 1) [⟨.int .u8,1,.aO 1⟩],.bu false 2 5 1 (.var 2) [⟨.int .u8,1,.aO 2⟩],.bu false 3 5 1 (.var 3) [⟨.int .u8,1,.aO 3⟩]] ⟨1,4,4,4,0,0,0⟩ ⟨[x0,x1,x2,x3],[A0,A1,A2,A3],[],[b0],[v0,v1,v2,v3],[],[],[]⟩ 1 1 Try.func31 (by kernel_rfl) h
def xh(ax:PT)(x0 x1:Int)(A0:Nat→Int)(v0:V1):Prop:=
 ∀b0:Nat,Cl 31 [.int .u8 x0,.slice none 0 0,.slice (some ⟨b0,0,none⟩) 1 1] [aq b0 true ([v0.v]),bi v0 x1 A0] fun x hs l=> ∃(v1:V1) (x2:Int) (A1:Nat→Int),x=v1.v∧hs=l++[bo v1 x2 A1]∧
 ax (v1.v) [bo v1 x2 A1]
theorem F5(ax:PT)(x0 x1:Int)(A0:Nat→Int)(v0:V1)(h:xh ax x0 x1 A0 v0):ar adE 29 [.int .u8 x0,.slice none 0 0,v0.v] [bi v0 x1 A0] ax:=
 s5 (C:=Fq.cx) [.int .u8 (.var 0),.cC,.vv 0] [.bu false 0 5 1 (.var 1) [⟨.int .u8,1,.aO 0⟩]] ⟨0,1,2,1,0,0,0⟩ ⟨[x0,x1],[A0],[],[],[v0],[],[],[]⟩ 0 1 Try.func29 (by kernel_rfl) h
def uF(ax:PT)(x0 x1 x2:Int)(A0 A1:Nat→Int)(v0 v1:V1):Prop:=
 aZ (¬(x2<1)) (
 aZ (8160<x2) (
 ax (.tuple #[.slice none 0 0,.int .i64 2]) [bi v0 x0 A0,bi v1 x1 A1]) (
 ∃(ez:Ext→Prop) (gT:Ext→Nat),(∃(v4 v5:V1) (x3 x4 x5:Int) (A2 A3:Nat→Int),x3=1∧v4=(⟨.slice none 0 0,rfl⟩:V1)∧v5=(⟨.slice none 0 0,rfl⟩:V1)∧v4=(⟨.slice none 0 0,rfl⟩:V1)∧x4=0∧(∀j,j<(ag x4)→A2 j=(fun _=>0) j)∧v5=(⟨.slice none 0 0,rfl⟩:V1)∧x5=0∧(∀j,j<(ag x5)→A3 j=(fun _=>0) j)∧ez ⟨[],[v4,v5],[x3,x4,x5],[A2,A3],[],[],[]⟩)∧
 ∀(v4 v5:V1) (x3 x4 x5:Int) (A2 A3:Nat→Int),ez ⟨[],[v4,v5],[x3,x4,x5],[A2,A3],[],[],[]⟩→
 aw (0≤x4) (
 aZ (x4<x2) (
 ∀b0 b1:Nat,Cl 31 [.int .u8 1,v0.v,.slice (some ⟨b1,0,none⟩) 3 3] [bi v0 x0 A0,aq b1 true ([v5.v,v1.v,.slice (some ⟨b0,0,none⟩) 1 1]),bo v5 x5 A3,bi v1 x1 A1,aq b0 true ([.int .u8 (ae .u8 x3)])] fun x hs l=> ∃(v6:V1) (x6:Int) (A4:Nat→Int),x=v6.v∧hs=l++[bo v6 x6 A4]∧
 aw (0≤x6) (
 aw (0≤x6) (
 fx (x4+x6) (
 ∀v7:V1,eJ (x3+1) ((
 ∃(OG Bg:V1) (fO eW gH:Int) (iG oN:Nat→Int),fO=(x3+1)∧OG=v7∧Bg=v6∧OG=v7∧eW=(x4+x6)∧(∀j,j<(ag eW)→iG j=(aA A2 (ag x4) (ag x6) A4) j)∧Bg=v6∧gH=x6∧(∀j,j<(ag gH)→oN j=A4 j)∧ez ⟨[],[OG,Bg],[fO,eW,gH],[iG,oN],[],[],[]⟩∧gT ⟨[],[OG,Bg],[fO,eW,gH],[iG,oN],[],[],[]⟩<gT ⟨[],[v4,v5],[x3,x4,x5],[A2,A3],[],[],[]⟩)))))) (
 aw (0≤x2) (
 aw (x2≤x4) (
 ax (.tuple #[(aC 1 v4.v 0 (ag x2) (some (ag x2))),.int .i64 0]) [bo v4 x4 A2,bo v5 x5 A3])))))) (
 ax (.tuple #[.slice none 0 0,.int .i64 2]) [bi v0 x0 A0,bi v1 x1 A1])
theorem Dw(ax:PT)(x0 x1 x2:Int)(A0 A1:Nat→Int)(v0 v1:V1)(h:uF ax x0 x1 x2 A0 A1 v0 v1):ar adE 14 [.int .u8 1,v0.v,v1.v,.int .i64 x2] [bi v0 x0 A0,bi v1 x1 A1] ax:=
 s5 (C:=Fq.cx) [.int .u8 (.lit 1),.vv 0,.vv 1,.int .i64 (.var 2)] [.bu false 0 5 1 (.var 0) [⟨.int .u8,1,.aO 0⟩],.bu false 1 5 1 (.var 1) [⟨.int .u8,1,.aO 1⟩]] ⟨0,2,3,2,0,0,0⟩ ⟨[x0,x1,x2],[A0,A1],[],[],[v0,v1],[],[],[]⟩ 0 2 Try.func14 (by kernel_rfl) h
def uG(ax:PT)(x0 x1 x2:Int)(A0 A1:Nat→Int)(v0 v1:V1):Prop:=
 aZ (¬(x2<1)) (
 aZ (16320<x2) (
 ax (.tuple #[.slice none 0 0,.int .i64 2]) [bi v0 x0 A0,bi v1 x1 A1]) (
 ∃(ez:Ext→Prop) (gT:Ext→Nat),(∃(v4 v5:V1) (x3 x4 x5:Int) (A2 A3:Nat→Int),x3=1∧v4=(⟨.slice none 0 0,rfl⟩:V1)∧v5=(⟨.slice none 0 0,rfl⟩:V1)∧v4=(⟨.slice none 0 0,rfl⟩:V1)∧x4=0∧(∀j,j<(ag x4)→A2 j=(fun _=>0) j)∧v5=(⟨.slice none 0 0,rfl⟩:V1)∧x5=0∧(∀j,j<(ag x5)→A3 j=(fun _=>0) j)∧ez ⟨[],[v4,v5],[x3,x4,x5],[A2,A3],[],[],[]⟩)∧
 ∀(v4 v5:V1) (x3 x4 x5:Int) (A2 A3:Nat→Int),ez ⟨[],[v4,v5],[x3,x4,x5],[A2,A3],[],[],[]⟩→
 aw (0≤x4) (
 aZ (x4<x2) (
 ∀b0 b1:Nat,Cl 31 [.int .u8 2,v0.v,.slice (some ⟨b1,0,none⟩) 3 3] [bi v0 x0 A0,aq b1 true ([v5.v,v1.v,.slice (some ⟨b0,0,none⟩) 1 1]),bo v5 x5 A3,bi v1 x1 A1,aq b0 true ([.int .u8 (ae .u8 x3)])] fun x hs l=> ∃(v6:V1) (x6:Int) (A4:Nat→Int),x=v6.v∧hs=l++[bo v6 x6 A4]∧
 aw (0≤x6) (
 aw (0≤x6) (
 fx (x4+x6) (
 ∀v7:V1,eJ (x3+1) ((
 ∃(OG Bg:V1) (fO eW gH:Int) (iG oN:Nat→Int),fO=(x3+1)∧OG=v7∧Bg=v6∧OG=v7∧eW=(x4+x6)∧(∀j,j<(ag eW)→iG j=(aA A2 (ag x4) (ag x6) A4) j)∧Bg=v6∧gH=x6∧(∀j,j<(ag gH)→oN j=A4 j)∧ez ⟨[],[OG,Bg],[fO,eW,gH],[iG,oN],[],[],[]⟩∧gT ⟨[],[OG,Bg],[fO,eW,gH],[iG,oN],[],[],[]⟩<gT ⟨[],[v4,v5],[x3,x4,x5],[A2,A3],[],[],[]⟩)))))) (
 aw (0≤x2) (
 aw (x2≤x4) (
 ax (.tuple #[(aC 1 v4.v 0 (ag x2) (some (ag x2))),.int .i64 0]) [bo v4 x4 A2,bo v5 x5 A3])))))) (
 ax (.tuple #[.slice none 0 0,.int .i64 2]) [bi v0 x0 A0,bi v1 x1 A1])
theorem Dx(ax:PT)(x0 x1 x2:Int)(A0 A1:Nat→Int)(v0 v1:V1)(h:uG ax x0 x1 x2 A0 A1 v0 v1):ar adE 14 [.int .u8 2,v0.v,v1.v,.int .i64 x2] [bi v0 x0 A0,bi v1 x1 A1] ax:=
 s5 (C:=Fq.cx) [.int .u8 (.lit 2),.vv 0,.vv 1,.int .i64 (.var 2)] [.bu false 0 5 1 (.var 0) [⟨.int .u8,1,.aO 0⟩],.bu false 1 5 1 (.var 1) [⟨.int .u8,1,.aO 1⟩]] ⟨0,2,3,2,0,0,0⟩ ⟨[x0,x1,x2],[A0,A1],[],[],[v0,v1],[],[],[]⟩ 0 2 Try.func14 (by kernel_rfl) h
def Dy(ax:PT)(x0 x1:Int):Prop:=
 ∀v0:V1,∃(bN:Ext→Prop) (bY:Ext→Nat),(∃(v1:V1) (x2 x3:Int) (A0:Nat→Int),x2=7∧v1=v0∧v1=v0∧x3=22∧(∀j,j<(ag x3)→A0 j=(QL [83,70,114,97,109,101,32,49,46,48,32,83,101,99,114,101,116,32,107,101,121,32]) j)∧bN ⟨[],[v1],[x2,x3],[A0],[],[],[]⟩)∧
 ∀(v1:V1) (x2 x3:Int) (A0:Nat→Int),bN ⟨[],[v1],[x2,x3],[A0],[],[],[]⟩→
 aZ (0≤x2) (
 eJ (8*x2) ((
 aw (0≤(8*x2)) (
 ∀_:Nat,aw (0≤x3) (
 fx ((x3+1)*1) (
 ∀v2:V1,eJ (x2 - 1) ((
 ∃(wk:V1) (gQ fO:Int) (wN:Nat→Int),gQ=(x2 - 1)∧wk=v2∧wk=v2∧fO=(x3+1)∧(∀j,j<(ag fO)→wN j=(ao A0 (ag x3) (ae .u8 (ak .shr .u64 x0 (8*x2)))) j)∧bN ⟨[],[wk],[gQ,fO],[wN],[],[],[]⟩∧bY ⟨[],[wk],[gQ,fO],[wN],[],[],[]⟩<bY ⟨[],[v1],[x2,x3],[A0],[],[],[]⟩)))))))) (
 ∀b0:Nat,aw (0≤x3) (
 fx (x3+2) (
 ∀v2:V1,ax (v2.v) [bo v2 (x3+2) (aA A0 (ag x3) 2 (ao (ao (fun _=>0) 0 (ae .u8 (ak .shr .u16 x1 8))) 1 (ae .u8 x1))),aq b0 true ([.int .u8 (ae .u8 (ak .shr .u16 x1 8)),.int .u8 (ae .u8 x1)])])))
theorem Li(ax:PT)(x0 x1:Int)(h:Dy ax x0 x1):ar adE 15 [.string ⟨#[83,70,114,97,109,101,32,49,46,48,32,83,101,99,114,101,116,32,107,101,121,32]⟩,.int .u64 x0,.int .u16 x1] [] ax:=
 s5 (C:=Fq.cx) [.str [83,70,114,97,109,101,32,49,46,48,32,83,101,99,114,101,116,32,107,101,121,32],.int .u64 (.var 0),.int .u16 (.var 1)] [] ⟨0,0,2,0,0,0,0⟩ ⟨[x0,x1],[],[],[],[],[],[],[]⟩ 0 2 Try.func15 (by kernel_rfl) h
def Dz(ax:PT)(x0 x1:Int):Prop:=
 ∀v0:V1,∃(bN:Ext→Prop) (bY:Ext→Nat),(∃(v1:V1) (x2 x3:Int) (A0:Nat→Int),x2=7∧v1=v0∧v1=v0∧x3=23∧(∀j,j<(ag x3)→A0 j=(QL [83,70,114,97,109,101,32,49,46,48,32,83,101,99,114,101,116,32,115,97,108,116,32]) j)∧bN ⟨[],[v1],[x2,x3],[A0],[],[],[]⟩)∧
 ∀(v1:V1) (x2 x3:Int) (A0:Nat→Int),bN ⟨[],[v1],[x2,x3],[A0],[],[],[]⟩→
 aZ (0≤x2) (
 eJ (8*x2) ((
 aw (0≤(8*x2)) (
 ∀_:Nat,aw (0≤x3) (
 fx ((x3+1)*1) (
 ∀v2:V1,eJ (x2 - 1) ((
 ∃(wk:V1) (gQ fO:Int) (wN:Nat→Int),gQ=(x2 - 1)∧wk=v2∧wk=v2∧fO=(x3+1)∧(∀j,j<(ag fO)→wN j=(ao A0 (ag x3) (ae .u8 (ak .shr .u64 x0 (8*x2)))) j)∧bN ⟨[],[wk],[gQ,fO],[wN],[],[],[]⟩∧bY ⟨[],[wk],[gQ,fO],[wN],[],[],[]⟩<bY ⟨[],[v1],[x2,x3],[A0],[],[],[]⟩)))))))) (
 ∀b0:Nat,aw (0≤x3) (
 fx (x3+2) (
 ∀v2:V1,ax (v2.v) [bo v2 (x3+2) (aA A0 (ag x3) 2 (ao (ao (fun _=>0) 0 (ae .u8 (ak .shr .u16 x1 8))) 1 (ae .u8 x1))),aq b0 true ([.int .u8 (ae .u8 (ak .shr .u16 x1 8)),.int .u8 (ae .u8 x1)])])))
theorem Lj(ax:PT)(x0 x1:Int)(h:Dz ax x0 x1):ar adE 15 [.string ⟨#[83,70,114,97,109,101,32,49,46,48,32,83,101,99,114,101,116,32,115,97,108,116,32]⟩,.int .u64 x0,.int .u16 x1] [] ax:=
 s5 (C:=Fq.cx) [.str [83,70,114,97,109,101,32,49,46,48,32,83,101,99,114,101,116,32,115,97,108,116,32],.int .u64 (.var 0),.int .u16 (.var 1)] [] ⟨0,0,2,0,0,0,0⟩ ⟨[x0,x1],[],[],[],[],[],[],[]⟩ 0 2 Try.func15 (by kernel_rfl) h
def Ah(ax:PT)(x0 x1:Int)(A0:Nat→Int)(v0:V1):Prop:=
 ∀_:Nat,Cl 5 [.int .u16 x0] [] fun x hs _=> ∃x2 x3 x4 x5 x6 x7:Int,x= .tuple #[.agg #[.int .u8 x2,.int .i64 x3,.int .i64 x4,.int .i64 x5,.int .i64 x6],.int .i64 x7]∧hs=[]∧
 ∀b1:Nat,aZ (¬(x7=0)) (
 ax (.tuple #[.agg #[.int .u8 x2,.int .i64 x3,.int .i64 x4,.int .i64 x5,.int .i64 x6],.slice none 0 0,.int .i64 x7]) [aq b1 true ([.int .u8 x2,.int .i64 x3,.int .i64 x4,.int .i64 x5,.int .i64 x6])]) (
 aw (0≤x1) (
 aw ((x1=0)∨(0≤x1)) (
 aZ ((x1=0)∨(1024<x1)) (
 ax (.tuple #[.agg #[.int .u8 x2,.int .i64 x3,.int .i64 x4,.int .i64 x5,.int .i64 x6],.slice none 0 0,.int .i64 2]) [aq b1 true ([.int .u8 x2,.int .i64 x3,.int .i64 x4,.int .i64 x5,.int .i64 x6])]) (
 Cl 29 [.int .u8 x2,.slice none 0 0,v0.v] [bi v0 x1 A0] fun x hs l=> ∃(v1:V1) (x8:Int) (A1:Nat→Int),x=v1.v∧hs=l++[bo v1 x8 A1]∧
 ax (.tuple #[.agg #[.int .u8 x2,.int .i64 x3,.int .i64 x4,.int .i64 x5,.int .i64 x6],v1.v,.int .i64 0]) [bo v1 x8 A1]))))
theorem Jd(ax:PT)(x0 x1:Int)(A0:Nat→Int)(v0:V1)(h:Ah ax x0 x1 A0 v0):ar adE 13 [.int .u16 x0,v0.v] [bi v0 x1 A0] ax:=
 s5 (C:=Fq.cx) [.int .u16 (.var 0),.vv 0] [.bu false 0 5 1 (.var 1) [⟨.int .u8,1,.aO 0⟩]] ⟨0,1,2,1,0,0,0⟩ ⟨[x0,x1],[A0],[],[],[v0],[],[],[]⟩ 0 1 Try.func13 (by kernel_rfl) h
def Ai(ax:PT)(x0 x1 x2:Int)(A0:Nat→Int)(v0:V1):Prop:=
 ∀b0:Nat,Cl 13 [.int .u16 x0,v0.v] [bi v0 x1 A0] fun x hs l=> ∃(v1:V1) (x3 x4 x5 x6 x7 x8 x9:Int) (A1:Nat→Int),x= .tuple #[.agg #[.int .u8 x3,.int .i64 x4,.int .i64 x5,.int .i64 x6,.int .i64 x7],v1.v,.int .i64 x8]∧hs=l++[bo v1 x9 A1]∧
 ∀b1:Nat,aZ (¬(x8=0)) (
 ax (.tuple #[.agg (.int .u16 0::(.int .u64 0::(.slice none 0 0::(ads (aj .u8 12 (fun _=>0)) ([]))))).toArray,.int .i64 x8]) [bi v0 x1 A0,aq b0 true (.int .u16 0::(.int .u64 0::(.slice none 0 0::(ads (aj .u8 12 (fun _=>0)) ([]))))),bo v1 x9 A1,aq b1 true ([.int .u8 x3,.int .i64 x4,.int .i64 x5,.int .i64 x6,.int .i64 x7])]) (
 ∀b2:Nat,Cl 15 [.string ⟨#[83,70,114,97,109,101,32,49,46,48,32,83,101,99,114,101,116,32,107,101,121,32]⟩,.int .u64 x2,.int .u16 x0] [] fun x hs _=> ∃(v2:V1) (eK:Int) (A2:Nat→Int),x=v2.v∧hs=[bo v2 eK A2]∧
 Cl 14 [.int .u8 x3,v1.v,v2.v,.int .i64 x4] [bo v1 x9 A1,bo v2 eK A2] fun x hs l=> ∃(v3:V1) (ib:Int) (A3:Nat→Int),x= .tuple #[v3.v,.int .i64 0]∧hs=l++[bo v3 ib A3]∧
 Cl 15 [.string ⟨#[83,70,114,97,109,101,32,49,46,48,32,83,101,99,114,101,116,32,115,97,108,116,32]⟩,.int .u64 x2,.int .u16 x0] [] fun x hs _=> ∃(v4:V1) (ic:Int) (A4:Nat→Int),x=v4.v∧hs=[bo v4 ic A4]∧
 Cl 14 [.int .u8 x3,v1.v,v4.v,.int .i64 12] [bo v1 x9 A1,bo v4 ic A4] fun x hs l=> ∃(v5:V1) (A5:Nat→Int),x= .tuple #[v5.v,.int .i64 0]∧hs=l++[bn true v5 12 A5]∧
 ax (.tuple #[.agg (.int .u16 x0::(.int .u64 x2::(v3.v::(ads (aj .u8 12 A5) ([]))))).toArray,.int .i64 0]) [bi v0 x1 A0,aq b0 true (.int .u16 x0::(.int .u64 x2::(v3.v::(ads (aj .u8 12 A5) ([]))))),bo v1 x9 A1,aq b1 true ([.int .u8 x3,.int .i64 x4,.int .i64 x5,.int .i64 x6,.int .i64 x7]),aq b2 true (.int .u16 x0::(.int .u64 x2::(v3.v::(ads (aj .u8 12 A5) ([]))))),bo v2 eK A2,bo v3 ib A3,bo v4 ic A4,bn true v5 12 A5])
theorem Je(ax:PT)(x0 x1 x2:Int)(A0:Nat→Int)(v0:V1)(h:Ai ax x0 x1 x2 A0 v0):ar adE 6 [.int .u16 x0,v0.v,.int .u64 x2] [bi v0 x1 A0] ax:=
 NQ (C:=Fq.cx) [.int .u16 (.var 0),.vv 0,.int .u64 (.var 2)] [.bu false 0 5 1 (.var 1) [⟨.int .u8,1,.aO 0⟩]] ⟨0,1,3,1,0,0,0⟩ ⟨[x0,x1,x2],[A0],[],[],[v0],[],[],[]⟩ Try.func6 (by kernel_rfl) h
end Go.RX.Fq
