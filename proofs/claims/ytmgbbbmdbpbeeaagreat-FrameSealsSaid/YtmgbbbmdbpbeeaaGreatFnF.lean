/- Sums and MACs. -/
import Derived.Test.YtmgbbbmdbpbeeaaGreatM38
open Go.IntKind renaming wrap → ae
open Go.Proofs.Tryz renaming prog → ae0
open Int renaming toNat → ag
namespace Go.RX.Fn
open Go.RX Go.Proofs Go.RX.Fe Go.RX.Fg Go.RX.Fi Go.RX.Fj Go.RX.Fk Go.RX.Fl Go.RX.Fm
noncomputable def cx:Ctx:={T:=TT,FT:=FT,loops:=Fn.loops,cq:=Fn.cq}
set_option maxRecDepth 100000
def oQ(ar:PT)(x0:Int):Prop:=
 ∃(bE:Ext→Prop) (bL:Ext→Nat),(∃x1 x2:Int,x1=1∧x2=0∧bE ⟨[],[],[x1,x2],[],[],[],[]⟩)∧
 ∀x1 x2:Int,bE ⟨[],[],[x1,x2],[],[],[],[]⟩→
 aR (x2<x0) (
 bH (x2+1) ((
 ∃cm cf:Int,cm=(ae .u64 (2*x1))∧cf=(x2+1)∧bE ⟨[],[],[cm,cf],[],[],[],[]⟩∧bL ⟨[],[],[cm,cf],[],[],[],[]⟩<bL ⟨[],[],[x1,x2],[],[],[],[]⟩))) (
 ar (.int .u64 x1) [])
theorem wP(ar:PT)(x0:Int)(h:oQ ar x0):aw ae0 158 [.int .i64 x0] [] ar:=
 FJ (C:=Fn.cx) [.int .i64 (.var 0)] [] ⟨0,0,1,0,0,0,0⟩ ⟨[x0],[],[],[],[],[],[],[]⟩ Tryz.func158 (by kernel_rfl) h
def Ag(ar:PT):Prop:=
 ∀b0:Nat,ar (.slice (some ⟨b0,0,none⟩) 80 80) [ax b0 true ([.int .u64 4794697086780616226,.int .u64 8158064640168781261,.int .u64 13096744586834688815,.int .u64 16840607885511220156,.int .u64 4131703408338449720,.int .u64 6480981068601479193,.int .u64 10538285296894168987,.int .u64 12329834152419229976,.int .u64 15566598209576043074,.int .u64 1334009975649890238,.int .u64 2608012711638119052,.int .u64 6128411473006802146,.int .u64 8268148722764581231,.int .u64 9286055187155687089,.int .u64 11230858885718282805,.int .u64 13951009754708518548,.int .u64 16472876342353939154,.int .u64 17275323862435702243,.int .u64 1135362057144423861,.int .u64 2597628984639134821,.int .u64 3308224258029322869,.int .u64 5365058923640841347,.int .u64 6679025012923562964,.int .u64 8573033837759648693,.int .u64 10970295158949994411,.int .u64 12119686244451234320,.int .u64 12683024718118986047,.int .u64 13788192230050041572,.int .u64 14330467153632333762,.int .u64 15395433587784984357,.int .u64 489312712824947311,.int .u64 1452737877330783856,.int .u64 2861767655752347644,.int .u64 3322285676063803686,.int .u64 5560940570517711597,.int .u64 5996557281743188959,.int .u64 7280758554555802590,.int .u64 8532644243296465576,.int .u64 9350256976987008742,.int .u64 10552545826968843579,.int .u64 11727347734174303076,.int .u64 12113106623233404929,.int .u64 14000437183269869457,.int .u64 14369950271660146224,.int .u64 15101387698204529176,.int .u64 15463397548674623760,.int .u64 17586052441742319658,.int .u64 1182934255886127544,.int .u64 1847814050463011016,.int .u64 2177327727835720531,.int .u64 2830643537854262169,.int .u64 3796741975233480872,.int .u64 4115178125766777443,.int .u64 5681478168544905931,.int .u64 6601373596472566643,.int .u64 7507060721942968483,.int .u64 8399075790359081724,.int .u64 8693463985226723168,.int .u64 9568029438360202098,.int .u64 10144078919501101548,.int .u64 10430055236837252648,.int .u64 11840083180663258601,.int .u64 13761210420658862357,.int .u64 14299343276471374635,.int .u64 14566680578165727644,.int .u64 15097957966210449927,.int .u64 16922976911328602910,.int .u64 17689382322260857208,.int .u64 500013540394364858,.int .u64 748580250866718886,.int .u64 1242879168328830382,.int .u64 1977374033974150939,.int .u64 2944078676154940804,.int .u64 3659926193048069267,.int .u64 4368137639120453308,.int .u64 4836135668995329356,.int .u64 5532061633213252278,.int .u64 6448918945643986474,.int .u64 6902733635092675308,.int .u64 7801388544844847127])]
theorem Jr(ar:PT)(h:Ag ar):aw ae0 157 [] [] ar:=
 Ls (C:=Fn.cx) [] [] ⟨0,0,0,0,0,0,0⟩ ⟨[],[],[],[],[],[],[],[]⟩ Tryz.func157 (by kernel_rfl) h
def Dg(ar:PT)(x0:Int):Prop:=
 Cl 158 [.int .i64 22] [] fun x hs _=>x= .int .u64 4194304∧hs=[]∧
 Cl 158 [.int .i64 22] [] fun x hs _=>x= .int .u64 4194304∧hs=[]∧
 Cl 158 [.int .i64 10] [] fun x hs _=>x= .int .u64 1024∧hs=[]∧
 Cl 158 [.int .i64 32] [] fun x hs _=>x= .int .u64 4294967296∧hs=[]∧
 Cl 158 [.int .i64 2] [] fun x hs _=>x= .int .u64 4∧hs=[]∧
 Cl 158 [.int .i64 30] [] fun x hs _=>x= .int .u64 1073741824∧hs=[]∧
 Cl 158 [.int .i64 32] [] fun x hs _=>x= .int .u64 4294967296∧hs=[]∧
 Cl 158 [.int .i64 13] [] fun x hs _=>x= .int .u64 8192∧hs=[]∧
 Cl 158 [.int .i64 19] [] fun x hs _=>x= .int .u64 524288∧hs=[]∧
 Cl 158 [.int .i64 32] [] fun x hs _=>x= .int .u64 4294967296∧hs=[]∧
 ar (.int .u64 (ak .ay .u64 (ak .ay .u64 (ae .u64 ((ae .u64 (ak .quo .u64 x0 4))+(ak .rem .u64 (ae .u64 (x0*1073741824)) 4294967296))) (ae .u64 ((ae .u64 (ak .quo .u64 x0 8192))+(ak .rem .u64 (ae .u64 (x0*524288)) 4294967296)))) (ae .u64 ((ae .u64 (ak .quo .u64 x0 4194304))+(ak .rem .u64 (ae .u64 (x0*1024)) 4294967296))))) []
theorem LN(ar:PT)(x0:Int)(h:Dg ar x0):aw ae0 161 [.int .i64 0,.int .u64 x0,.int .i64 32] [] ar:=
 Ls (C:=Fn.cx) [.int .i64 (.lit 0),.int .u64 (.var 0),.int .i64 (.lit 32)] [] ⟨0,0,1,0,0,0,0⟩ ⟨[x0],[],[],[],[],[],[],[]⟩ Tryz.func161 (by kernel_rfl) h
def Dh(ar:PT)(x0:Int):Prop:=
 Cl 158 [.int .i64 25] [] fun x hs _=>x= .int .u64 33554432∧hs=[]∧
 Cl 158 [.int .i64 25] [] fun x hs _=>x= .int .u64 33554432∧hs=[]∧
 Cl 158 [.int .i64 7] [] fun x hs _=>x= .int .u64 128∧hs=[]∧
 Cl 158 [.int .i64 32] [] fun x hs _=>x= .int .u64 4294967296∧hs=[]∧
 Cl 158 [.int .i64 6] [] fun x hs _=>x= .int .u64 64∧hs=[]∧
 Cl 158 [.int .i64 26] [] fun x hs _=>x= .int .u64 67108864∧hs=[]∧
 Cl 158 [.int .i64 32] [] fun x hs _=>x= .int .u64 4294967296∧hs=[]∧
 Cl 158 [.int .i64 11] [] fun x hs _=>x= .int .u64 2048∧hs=[]∧
 Cl 158 [.int .i64 21] [] fun x hs _=>x= .int .u64 2097152∧hs=[]∧
 Cl 158 [.int .i64 32] [] fun x hs _=>x= .int .u64 4294967296∧hs=[]∧
 ar (.int .u64 (ak .ay .u64 (ak .ay .u64 (ae .u64 ((ae .u64 (ak .quo .u64 x0 64))+(ak .rem .u64 (ae .u64 (x0*67108864)) 4294967296))) (ae .u64 ((ae .u64 (ak .quo .u64 x0 2048))+(ak .rem .u64 (ae .u64 (x0*2097152)) 4294967296)))) (ae .u64 ((ae .u64 (ak .quo .u64 x0 33554432))+(ak .rem .u64 (ae .u64 (x0*128)) 4294967296))))) []
theorem LO(ar:PT)(x0:Int)(h:Dh ar x0):aw ae0 161 [.int .i64 1,.int .u64 x0,.int .i64 32] [] ar:=
 Ls (C:=Fn.cx) [.int .i64 (.lit 1),.int .u64 (.var 0),.int .i64 (.lit 32)] [] ⟨0,0,1,0,0,0,0⟩ ⟨[x0],[],[],[],[],[],[],[]⟩ Tryz.func161 (by kernel_rfl) h
def Di(ar:PT)(x0:Int):Prop:=
 Cl 158 [.int .i64 3] [] fun x hs _=>x= .int .u64 8∧hs=[]∧
 Cl 158 [.int .i64 7] [] fun x hs _=>x= .int .u64 128∧hs=[]∧
 Cl 158 [.int .i64 25] [] fun x hs _=>x= .int .u64 33554432∧hs=[]∧
 Cl 158 [.int .i64 32] [] fun x hs _=>x= .int .u64 4294967296∧hs=[]∧
 Cl 158 [.int .i64 18] [] fun x hs _=>x= .int .u64 262144∧hs=[]∧
 Cl 158 [.int .i64 14] [] fun x hs _=>x= .int .u64 16384∧hs=[]∧
 Cl 158 [.int .i64 32] [] fun x hs _=>x= .int .u64 4294967296∧hs=[]∧
 ar (.int .u64 (ak .ay .u64 (ak .ay .u64 (ae .u64 ((ae .u64 (ak .quo .u64 x0 128))+(ak .rem .u64 (ae .u64 (x0*33554432)) 4294967296))) (ae .u64 ((ae .u64 (ak .quo .u64 x0 262144))+(ak .rem .u64 (ae .u64 (x0*16384)) 4294967296)))) (ae .u64 (ak .quo .u64 x0 8)))) []
theorem LP(ar:PT)(x0:Int)(h:Di ar x0):aw ae0 161 [.int .i64 2,.int .u64 x0,.int .i64 32] [] ar:=
 Ls (C:=Fn.cx) [.int .i64 (.lit 2),.int .u64 (.var 0),.int .i64 (.lit 32)] [] ⟨0,0,1,0,0,0,0⟩ ⟨[x0],[],[],[],[],[],[],[]⟩ Tryz.func161 (by kernel_rfl) h
def Dj(ar:PT)(x0:Int):Prop:=
 Cl 158 [.int .i64 10] [] fun x hs _=>x= .int .u64 1024∧hs=[]∧
 Cl 158 [.int .i64 17] [] fun x hs _=>x= .int .u64 131072∧hs=[]∧
 Cl 158 [.int .i64 15] [] fun x hs _=>x= .int .u64 32768∧hs=[]∧
 Cl 158 [.int .i64 32] [] fun x hs _=>x= .int .u64 4294967296∧hs=[]∧
 Cl 158 [.int .i64 19] [] fun x hs _=>x= .int .u64 524288∧hs=[]∧
 Cl 158 [.int .i64 13] [] fun x hs _=>x= .int .u64 8192∧hs=[]∧
 Cl 158 [.int .i64 32] [] fun x hs _=>x= .int .u64 4294967296∧hs=[]∧
 ar (.int .u64 (ak .ay .u64 (ak .ay .u64 (ae .u64 ((ae .u64 (ak .quo .u64 x0 131072))+(ak .rem .u64 (ae .u64 (x0*32768)) 4294967296))) (ae .u64 ((ae .u64 (ak .quo .u64 x0 524288))+(ak .rem .u64 (ae .u64 (x0*8192)) 4294967296)))) (ae .u64 (ak .quo .u64 x0 1024)))) []
theorem LQ(ar:PT)(x0:Int)(h:Dj ar x0):aw ae0 161 [.int .i64 3,.int .u64 x0,.int .i64 32] [] ar:=
 Ls (C:=Fn.cx) [.int .i64 (.lit 3),.int .u64 (.var 0),.int .i64 (.lit 32)] [] ⟨0,0,1,0,0,0,0⟩ ⟨[x0],[],[],[],[],[],[],[]⟩ Tryz.func161 (by kernel_rfl) h
def Dk(ar:PT)(x0 x1:Int)(A0:Nat→Int)(v0:V1):Prop:=
 Cl 158 [.int .i64 32] [] fun x hs _=>x= .int .u64 4294967296∧hs=[]∧
 Cl 161 [.int .i64 1,.int .u64 (A0 4),.int .i64 32] [] fun x hs _=> ∃x2:Int,x= .int .u64 x2∧hs=[]∧
 Cl 158 [.int .i64 32] [] fun x hs _=>x= .int .u64 4294967296∧hs=[]∧
 Cl 161 [.int .i64 0,.int .u64 (A0 0),.int .i64 32] [] fun x hs _=> ∃x3:Int,x= .int .u64 x3∧hs=[]∧
 Cl 158 [.int .i64 32] [] fun x hs _=>x= .int .u64 4294967296∧hs=[]∧
 Cl 158 [.int .i64 32] [] fun x hs _=>x= .int .u64 4294967296∧hs=[]∧
 Cl 158 [.int .i64 32] [] fun x hs _=>x= .int .u64 4294967296∧hs=[]∧
 ∀b0:Nat,ar (.slice (some ⟨b0,0,none⟩) 8 8) [aE true 23 1 v0.v 8 (aQ 8 [aO .u64 1 A0]),ax b0 true ([.int .u64 (ak .rem .u64 (ae .u64 ((ak .rem .u64 (ae .u64 ((ae .u64 ((ae .u64 ((ae .u64 ((A0 7)+x2))+(ak .ay .u64 (ak .aP .u64 (A0 4) (A0 5)) (ak .aP .u64 (ae .u64 (4294967295 - (A0 4))) (A0 6)))))+x0))+x1)) 4294967296)+(ak .rem .u64 (ae .u64 (x3+(ak .ay .u64 (ak .ay .u64 (ak .aP .u64 (A0 0) (A0 1)) (ak .aP .u64 (A0 0) (A0 2))) (ak .aP .u64 (A0 1) (A0 2))))) 4294967296))) 4294967296),.int .u64 (A0 0),.int .u64 (A0 1),.int .u64 (A0 2),.int .u64 (ak .rem .u64 (ae .u64 ((A0 3)+(ak .rem .u64 (ae .u64 ((ae .u64 ((ae .u64 ((ae .u64 ((A0 7)+x2))+(ak .ay .u64 (ak .aP .u64 (A0 4) (A0 5)) (ak .aP .u64 (ae .u64 (4294967295 - (A0 4))) (A0 6)))))+x0))+x1)) 4294967296))) 4294967296),.int .u64 (A0 4),.int .u64 (A0 5),.int .u64 (A0 6)])]
theorem LR(ar:PT)(x0 x1:Int)(A0:Nat→Int)(v0:V1)(h:Dk ar x0 x1 A0 v0):aw ae0 162 [v0.v,.int .u64 x0,.int .u64 x1,.int .i64 32] [aE true 23 1 v0.v 8 (aQ 8 [aO .u64 1 A0])] ar:=
 Ls (C:=Fn.cx) [.vv 0,.int .u64 (.var 0),.int .u64 (.var 1),.int .i64 (.lit 32)] [.bC true 0 23 1 (.lit 8) [⟨.int .u64,1,.aL 0⟩]] ⟨0,1,2,1,0,0,0⟩ ⟨[x0,x1],[A0],[],[],[v0],[],[],[]⟩ Tryz.func162 (by kernel_rfl) h
def w_(ar:PT)(x0:Int)(A0:Nat→Int)(_:V1):Prop:=
 ∀_:V1,ao (0≤x0) (
 ao (0≤x0) (
 gV x0 (
 ∀(_:V1) (b0:Nat),gV ((x0+1)*1) (
 ∀v3:V1,∃(bE:Ext→Prop) (bL:Ext→Nat),(∃(v4:V1) (x1:Int) (A1:Nat→Int),v4=v3∧v4=v3∧x1=(x0+1)∧(∀j,j<(ag x1)→A1 j=(aq A0 (ag x0) 128) j)∧bE ⟨[],[v4],[x1],[A1],[],[],[]⟩)∧
 ∀(v4:V1) (x1:Int) (A1:Nat→Int),bE ⟨[],[v4],[x1],[A1],[],[],[]⟩→
 ao (0≤x1) (
 aR (¬((ak .rem .i64 x1 64)=56)) (
 ∀_:Nat,gV ((x1+1)*1) (
 ∀v5:V1,∃(lL:V1) (cm:Int) (qW:Nat→Int),lL=v5∧lL=v5∧cm=(x1+1)∧(∀j,j<(ag cm)→qW j=(aq A1 (ag x1) 0) j)∧bE ⟨[],[lL],[cm],[qW],[],[],[]⟩∧bL ⟨[],[lL],[cm],[qW],[],[],[]⟩<bL ⟨[],[v4],[x1],[A1],[],[],[]⟩)) (
 ∀v5:V1,ao (0≤x0) (
 gV (x1+8) (
 ∀v6:V1,ar (v6.v) [bo v6 (x1+8) (aI A1 (ag x1) 8 (aq (aq (aq (aq (aq (aq (aq (aq (fun _=>0) 7 (ae .u8 (ak .rem .u64 (ae .u64 (8*(ae .u64 x0))) 256))) 6 (ae .u8 (ak .rem .u64 (ae .u64 (ak .quo .u64 (ae .u64 (8*(ae .u64 x0))) 256)) 256))) 5 (ae .u8 (ak .rem .u64 (ae .u64 (ak .quo .u64 (ae .u64 (ak .quo .u64 (ae .u64 (8*(ae .u64 x0))) 256)) 256)) 256))) 4 (ae .u8 (ak .rem .u64 (ae .u64 (ak .quo .u64 (ae .u64 (ak .quo .u64 (ae .u64 (ak .quo .u64 (ae .u64 (8*(ae .u64 x0))) 256)) 256)) 256)) 256))) 3 (ae .u8 (ak .rem .u64 (ae .u64 (ak .quo .u64 (ae .u64 (ak .quo .u64 (ae .u64 (ak .quo .u64 (ae .u64 (ak .quo .u64 (ae .u64 (8*(ae .u64 x0))) 256)) 256)) 256)) 256)) 256))) 2 (ae .u8 (ak .rem .u64 (ae .u64 (ak .quo .u64 (ae .u64 (ak .quo .u64 (ae .u64 (ak .quo .u64 (ae .u64 (ak .quo .u64 (ae .u64 (ak .quo .u64 (ae .u64 (8*(ae .u64 x0))) 256)) 256)) 256)) 256)) 256)) 256))) 1 (ae .u8 (ak .rem .u64 (ae .u64 (ak .quo .u64 (ae .u64 (ak .quo .u64 (ae .u64 (ak .quo .u64 (ae .u64 (ak .quo .u64 (ae .u64 (ak .quo .u64 (ae .u64 (ak .quo .u64 (ae .u64 (8*(ae .u64 x0))) 256)) 256)) 256)) 256)) 256)) 256)) 256))) 0 (ae .u8 (ak .rem .u64 (ae .u64 (ak .quo .u64 (ae .u64 (ak .quo .u64 (ae .u64 (ak .quo .u64 (ae .u64 (ak .quo .u64 (ae .u64 (ak .quo .u64 (ae .u64 (ak .quo .u64 (ae .u64 (ak .quo .u64 (ae .u64 (8*(ae .u64 x0))) 256)) 256)) 256)) 256)) 256)) 256)) 256)) 256)))),ax b0 true ([.int .u8 128]),bn true v5 8 (aq (aq (aq (aq (aq (aq (aq (aq (fun _=>0) 7 (ae .u8 (ak .rem .u64 (ae .u64 (8*(ae .u64 x0))) 256))) 6 (ae .u8 (ak .rem .u64 (ae .u64 (ak .quo .u64 (ae .u64 (8*(ae .u64 x0))) 256)) 256))) 5 (ae .u8 (ak .rem .u64 (ae .u64 (ak .quo .u64 (ae .u64 (ak .quo .u64 (ae .u64 (8*(ae .u64 x0))) 256)) 256)) 256))) 4 (ae .u8 (ak .rem .u64 (ae .u64 (ak .quo .u64 (ae .u64 (ak .quo .u64 (ae .u64 (ak .quo .u64 (ae .u64 (8*(ae .u64 x0))) 256)) 256)) 256)) 256))) 3 (ae .u8 (ak .rem .u64 (ae .u64 (ak .quo .u64 (ae .u64 (ak .quo .u64 (ae .u64 (ak .quo .u64 (ae .u64 (ak .quo .u64 (ae .u64 (8*(ae .u64 x0))) 256)) 256)) 256)) 256)) 256))) 2 (ae .u8 (ak .rem .u64 (ae .u64 (ak .quo .u64 (ae .u64 (ak .quo .u64 (ae .u64 (ak .quo .u64 (ae .u64 (ak .quo .u64 (ae .u64 (ak .quo .u64 (ae .u64 (8*(ae .u64 x0))) 256)) 256)) 256)) 256)) 256)) 256))) 1 (ae .u8 (ak .rem .u64 (ae .u64 (ak .quo .u64 (ae .u64 (ak .quo .u64 (ae .u64 (ak .quo .u64 (ae .u64 (ak .quo .u64 (ae .u64 (ak .quo .u64 (ae .u64 (ak .quo .u64 (ae .u64 (8*(ae .u64 x0))) 256)) 256)) 256)) 256)) 256)) 256)) 256))) 0 (ae .u8 (ak .rem .u64 (ae .u64 (ak .quo .u64 (ae .u64 (ak .quo .u64 (ae .u64 (ak .quo .u64 (ae .u64 (ak .quo .u64 (ae .u64 (ak .quo .u64 (ae .u64 (ak .quo .u64 (ae .u64 (ak .quo .u64 (ae .u64 (8*(ae .u64 x0))) 256)) 256)) 256)) 256)) 256)) 256)) 256)) 256)))]))))))))
theorem FU(ar:PT)(x0:Int)(A0:Nat→Int)(v0:V1)(h:w_ ar x0 A0 v0):aw ae0 159 [v0.v,.int .i64 32] [bi v0 x0 A0] ar:=
 mK (C:=Fn.cx) [.vv 0,.int .i64 (.lit 32)] [.bC false 0 5 1 (.var 0) [⟨.int .u8,1,.aL 0⟩]] ⟨0,1,1,1,0,0,0⟩ ⟨[x0],[A0],[],[],[v0],[],[],[]⟩ 0 3 Tryz.func159 (by kernel_rfl) h
def HG(ar:PT)(x0:Int)(A0:Nat→Int)(v0:V1):Prop:=
 ∀_:Nat,Cl 157 [] [] fun x hs _=> ∃(v1:V1) (A1:Nat→Int),x=v1.v∧hs=[aE true 23 1 v1.v 80 (aQ 80 [aO .u64 1 A1])]∧
 Cl 158 [.int .i64 32] [] fun x hs _=>x= .int .u64 4294967296∧hs=[]∧
 Cl 159 [v0.v,.int .i64 32] [bi v0 x0 A0] fun x hs l=> ∃(v2:V1) (x1:Int) (A2:Nat→Int),x=v2.v∧hs=l++[bo v2 x1 A2]∧
 ∃(bE:Ext→Prop) (bL:Ext→Nat),(∃x2 x3 x4 x5 x6 x7 x8 x9 dS:Int,dS=0∧x2=1779033703∧x3=3144134277∧x4=1013904242∧x5=2773480762∧x6=1359893119∧x7=2600822924∧x8=528734635∧x9=1541459225∧bE ⟨[],[],[x2,x3,x4,x5,x6,x7,x8,x9,dS],[],[],[],[]⟩)∧
 ∀x2 x3 x4 x5 x6 x7 x8 x9 dS:Int,bE ⟨[],[],[x2,x3,x4,x5,x6,x7,x8,x9,dS],[],[],[],[]⟩→
 ao (0≤x1) (
 aR (dS<x1) (
 ∃(FL:Ext→Prop) (Lm:Ext→Nat),(∃(v4:V1) (dQ:Int) (A3:Nat→Int),dQ=0∧v4=(⟨.slice none 0 0,rfl⟩:V1)∧v4=(⟨.slice none 0 0,rfl⟩:V1)∧dQ=0∧(∀j,j<(ag dQ)→A3 j=(fun _=>0) j)∧FL ⟨[],[v4],[dQ],[A3],[],[],[]⟩)∧
 ∀(v4:V1) (dQ:Int) (A3:Nat→Int),FL ⟨[],[v4],[dQ],[A3],[],[],[]⟩→
 aR (dQ<16) (
 bH (dQ*32) ((
 bH (dS+(ae .i64 (ak .quo .i64 (dQ*32) 8))) ((
 ao (0≤(dS+(ae .i64 (ak .quo .i64 (dQ*32) 8)))) (
 ao ((dS+(ae .i64 (ak .quo .i64 (dQ*32) 8)))<x1) (
 bH ((dS+(ae .i64 (ak .quo .i64 (dQ*32) 8)))+1) ((
 ao (0≤((dS+(ae .i64 (ak .quo .i64 (dQ*32) 8)))+1)) (
 ao (((dS+(ae .i64 (ak .quo .i64 (dQ*32) 8)))+1)<x1) (
 bH ((dS+(ae .i64 (ak .quo .i64 (dQ*32) 8)))+2) ((
 ao (0≤((dS+(ae .i64 (ak .quo .i64 (dQ*32) 8)))+2)) (
 ao (((dS+(ae .i64 (ak .quo .i64 (dQ*32) 8)))+2)<x1) (
 bH ((dS+(ae .i64 (ak .quo .i64 (dQ*32) 8)))+3) ((
 ao (0≤((dS+(ae .i64 (ak .quo .i64 (dQ*32) 8)))+3)) (
 ao (((dS+(ae .i64 (ak .quo .i64 (dQ*32) 8)))+3)<x1) (
 ∀_:Nat,ao (0≤dQ) (
 gV ((dQ+1)*8) (
 ∀v5:V1,bH (dQ+1) ((
 ∃(lL:V1) (oE:Int) (kW:Nat→Int),oE=(dQ+1)∧lL=v5∧lL=v5∧oE=(dQ+1)∧(∀j,j<(ag oE)→kW j=(aq A3 (ag dQ) (ae .u64 ((ae .u64 (256*(ae .u64 ((ae .u64 (256*(ae .u64 ((ae .u64 (256*(ae .u64 (ae .u64 (A2 (ag (dS+(ae .i64 (ak .quo .i64 (dQ*32) 8)))))))))+(ae .u64 (A2 (ag ((dS+(ae .i64 (ak .quo .i64 (dQ*32) 8)))+1))))))))+(ae .u64 (A2 (ag ((dS+(ae .i64 (ak .quo .i64 (dQ*32) 8)))+2))))))))+(ae .u64 (A2 (ag ((dS+(ae .i64 (ak .quo .i64 (dQ*32) 8)))+3))))))) j)∧FL ⟨[],[lL],[oE],[kW],[],[],[]⟩∧Lm ⟨[],[lL],[oE],[kW],[],[],[]⟩<Lm ⟨[],[v4],[dQ],[A3],[],[],[]⟩))))))))))))))))))))))) (
 ∃(FK:Ext→Prop) (Ll:Ext→Nat),(∃(v5:V1) (dK:Int) (A4:Nat→Int),dK=16∧v5=v4∧v5=v4∧dK=dQ∧(∀j,j<(ag dK)→A4 j=A3 j)∧FK ⟨[],[v5],[dK],[A4],[],[],[]⟩)∧
 ∀(v5:V1) (dK:Int) (A4:Nat→Int),FK ⟨[],[v5],[dK],[A4],[],[],[]⟩→
 aR (dK<64) (
 bH (dK - 2) ((
 ao (0≤(dK - 2)) (
 ao ((dK - 2)<dK) (
 bH (dK - 7) ((
 ao (0≤(dK - 7)) (
 ao ((dK - 7)<dK) (
 bH (dK - 15) ((
 ao (0≤(dK - 15)) (
 ao ((dK - 15)<dK) (
 bH (dK - 16) ((
 ao (0≤(dK - 16)) (
 ao ((dK - 16)<dK) (
 Cl 161 [.int .i64 3,.int .u64 (A4 (ag (dK - 2))),.int .i64 32] [] fun x hs _=> ∃cT:Int,x= .int .u64 cT∧hs=[]∧
 Cl 161 [.int .i64 2,.int .u64 (A4 (ag (dK - 15))),.int .i64 32] [] fun x hs _=> ∃oF:Int,x= .int .u64 oF∧hs=[]∧
 Cl 158 [.int .i64 32] [] fun x hs _=>x= .int .u64 4294967296∧hs=[]∧
 ∀_:Nat,ao (0≤dK) (
 gV ((dK+1)*8) (
 ∀v6:V1,bH (dK+1) ((
 ∃(Pc:V1) (qY:Int) (oR:Nat→Int),qY=(dK+1)∧Pc=v6∧Pc=v6∧qY=(dK+1)∧(∀j,j<(ag qY)→oR j=(aq A4 (ag dK) (ak .rem .u64 (ae .u64 ((ae .u64 ((ae .u64 (cT+(A4 (ag (dK - 7)))))+oF))+(A4 (ag (dK - 16))))) 4294967296)) j)∧FK ⟨[],[Pc],[qY],[oR],[],[],[]⟩∧Ll ⟨[],[Pc],[qY],[oR],[],[],[]⟩<Ll ⟨[],[v5],[dK],[A4],[],[],[]⟩))))))))))))))))))))) (
 ∀_ v7:V1,∃(ou:Ext→Prop) (qB:Ext→Nat),(∃(v8:V1) (cT:Int) (A5:Nat→Int),cT=0∧v8=v7∧v8=v7∧(∀j,j<8→A5 j=(aq (aq (aq (aq (aq (aq (aq (aq (fun _=>0) 0 x2) 1 x3) 2 x4) 3 x5) 4 x6) 5 x7) 6 x8) 7 x9) j)∧ou ⟨[],[v8],[cT],[A5],[],[],[]⟩)∧
 ∀(v8:V1) (cT:Int) (A5:Nat→Int),ou ⟨[],[v8],[cT],[A5],[],[],[]⟩→
 aR (cT<64) (
 ao (0≤cT) (
 ao (cT<80) (
 ao (cT<dK) (
 Cl 162 [v8.v,.int .u64 (ae .u64 (ak .quo .u64 (A1 (ag cT)) 4294967296)),.int .u64 (A4 (ag cT)),.int .i64 32] [aE true 23 1 v8.v 8 (aQ 8 [aO .u64 1 A5])] fun x hs _=> ∃(v9:V1) (A6:Nat→Int),x=v9.v∧hs=[aE true 23 1 v9.v 8 (aQ 8 [aO .u64 1 A6])]∧
 bH (cT+1) ((
 ∃(Ho:V1) (CX:Int) (qX:Nat→Int),CX=(cT+1)∧Ho=v9∧Ho=v9∧(∀j,j<8→qX j=A6 j)∧ou ⟨[],[Ho],[CX],[qX],[],[],[]⟩∧qB ⟨[],[Ho],[CX],[qX],[],[],[]⟩<qB ⟨[],[v8],[cT],[A5],[],[],[]⟩)))))) (
 Cl 158 [.int .i64 32] [] fun x hs _=>x= .int .u64 4294967296∧hs=[]∧
 Cl 158 [.int .i64 32] [] fun x hs _=>x= .int .u64 4294967296∧hs=[]∧
 Cl 158 [.int .i64 32] [] fun x hs _=>x= .int .u64 4294967296∧hs=[]∧
 Cl 158 [.int .i64 32] [] fun x hs _=>x= .int .u64 4294967296∧hs=[]∧
 Cl 158 [.int .i64 32] [] fun x hs _=>x= .int .u64 4294967296∧hs=[]∧
 Cl 158 [.int .i64 32] [] fun x hs _=>x= .int .u64 4294967296∧hs=[]∧
 Cl 158 [.int .i64 32] [] fun x hs _=>x= .int .u64 4294967296∧hs=[]∧
 Cl 158 [.int .i64 32] [] fun x hs _=>x= .int .u64 4294967296∧hs=[]∧
 bH (dS+64) ((
 ∃cf dt dc qq wT KW KX KY vK:Int,vK=(dS+64)∧cf=(ak .rem .u64 (ae .u64 (x2+(A5 0))) 4294967296)∧dt=(ak .rem .u64 (ae .u64 (x3+(A5 1))) 4294967296)∧dc=(ak .rem .u64 (ae .u64 (x4+(A5 2))) 4294967296)∧qq=(ak .rem .u64 (ae .u64 (x5+(A5 3))) 4294967296)∧wT=(ak .rem .u64 (ae .u64 (x6+(A5 4))) 4294967296)∧KW=(ak .rem .u64 (ae .u64 (x7+(A5 5))) 4294967296)∧KX=(ak .rem .u64 (ae .u64 (x8+(A5 6))) 4294967296)∧KY=(ak .rem .u64 (ae .u64 (x9+(A5 7))) 4294967296)∧bE ⟨[],[],[cf,dt,dc,qq,wT,KW,KX,KY,vK],[],[],[],[]⟩∧bL ⟨[],[],[cf,dt,dc,qq,wT,KW,KX,KY,vK],[],[],[],[]⟩<bL ⟨[],[],[x2,x3,x4,x5,x6,x7,x8,x9,dS],[],[],[],[]⟩)))))) (
 ∃(iT:Ext→Prop) (kB:Ext→Nat),(∃(v4:V1) (dQ dK:Int) (A3 A4:Nat→Int),dQ=0∧v4=(⟨.slice none 0 0,rfl⟩:V1)∧(∀j,j<8→A4 j=(aq (aq (aq (aq (aq (aq (aq (aq (fun _=>0) 0 x2) 1 x3) 2 x4) 3 x5) 4 x6) 5 x7) 6 x8) 7 x9) j)∧v4=(⟨.slice none 0 0,rfl⟩:V1)∧dK=0∧(∀j,j<(ag dK)→A3 j=(fun _=>0) j)∧iT ⟨[],[v4],[dQ,dK],[A3,A4],[],[],[]⟩)∧
 ∀(v4:V1) (dQ dK:Int) (A3 A4:Nat→Int),iT ⟨[],[v4],[dQ,dK],[A3,A4],[],[],[]⟩→
 aR (dQ<8) (
 ao (0≤dQ) (
 Cl 158 [.int .i64 24] [] fun x hs _=>x= .int .u64 16777216∧hs=[]∧
 ∀_:Nat,ao (0≤dK) (
 gV ((dK+1)*1) (
 ∀_:V1,Cl 158 [.int .i64 16] [] fun x hs _=>x= .int .u64 65536∧hs=[]∧
 ∀_:Nat,ao (0≤(dK+1)) (
 ao ((((dK+1)+1)*1)≤140737488355328) (
 ∀_:V1,Cl 158 [.int .i64 8] [] fun x hs _=>x= .int .u64 256∧hs=[]∧
 ∀_:Nat,ao (0≤((dK+1)+1)) (
 ao (((((dK+1)+1)+1)*1)≤140737488355328) (
 ∀_:V1,Cl 158 [.int .i64 0] [] fun x hs _=>x= .int .u64 1∧hs=[]∧
 ∀_:Nat,ao (0≤(((dK+1)+1)+1)) (
 ao ((((((dK+1)+1)+1)+1)*1)≤140737488355328) (
 ∀v8:V1,bH (dQ+1) ((
 ∃(lL:V1) (oE qY:Int) (kW oR:Nat→Int),oE=(dQ+1)∧lL=v8∧(∀j,j<8→oR j=A4 j)∧lL=v8∧qY=((((dK+1)+1)+1)+1)∧(∀j,j<(ag qY)→kW j=(aq (aq (aq (aq A3 (ag dK) (ae .u8 (ak .rem .u64 (ae .u64 (ak .quo .u64 (A4 (ag dQ)) 16777216)) 256))) (ag (dK+1)) (ae .u8 (ak .rem .u64 (ae .u64 (ak .quo .u64 (A4 (ag dQ)) 65536)) 256))) (ag ((dK+1)+1)) (ae .u8 (ak .rem .u64 (ae .u64 (ak .quo .u64 (A4 (ag dQ)) 256)) 256))) (ag (((dK+1)+1)+1)) (ae .u8 (ak .rem .u64 (ae .u64 (ak .quo .u64 (A4 (ag dQ)) 1)) 256))) j)∧iT ⟨[],[lL],[oE,qY],[kW,oR],[],[],[]⟩∧kB ⟨[],[lL],[oE,qY],[kW,oR],[],[],[]⟩<kB ⟨[],[v4],[dQ,dK],[A3,A4],[],[],[]⟩)))))))))))) (
 ar (v4.v) [bo v4 dK A3])))
theorem Pz(ar:PT)(x0:Int)(A0:Nat→Int)(v0:V1)(h:HG ar x0 A0 v0):aw ae0 145 [v0.v,.int .i64 32] [bi v0 x0 A0] ar:=
 mK (C:=Fn.cx) [.vv 0,.int .i64 (.lit 32)] [.bC false 0 5 1 (.var 0) [⟨.int .u8,1,.aL 0⟩]] ⟨0,1,1,1,0,0,0⟩ ⟨[x0],[A0],[],[],[v0],[],[],[]⟩ 0 1 Tryz.func145 (by kernel_rfl) h
def Dl(ar:PT)(x0:Int)(A0:Nat→Int)(v0:V1):Prop:=
 Cl 145 [v0.v,.int .i64 32] [bi v0 x0 A0] fun x hs l=> ∃(v1:V1) (A1:Nat→Int),x=v1.v∧hs=l++[bn true v1 32 A1]∧
 ar (v1.v) [bn true v1 32 A1]
theorem LS(ar:PT)(x0:Int)(A0:Nat→Int)(v0:V1)(h:Dl ar x0 A0 v0):aw ae0 128 [.int .u8 1,v0.v] [bi v0 x0 A0] ar:=
 mK (C:=Fn.cx) [.int .u8 (.lit 1),.vv 0] [.bC false 0 5 1 (.var 0) [⟨.int .u8,1,.aL 0⟩]] ⟨0,1,1,1,0,0,0⟩ ⟨[x0],[A0],[],[],[v0],[],[],[]⟩ 0 1 Tryz.func128 (by kernel_rfl) h
def Dm(ar:PT)(x0 x1:Int)(A0:Nat→Int)(v0:V1):Prop:=
 ∀_:V1,ao (0≤x0) (
 ao (0≤x0) (
 gV x0 (
 ∀v2:V1,aR (64<x0) (
 Cl 128 [.int .u8 1,v2.v] [bo v2 x0 A0] fun x hs l=> ∃(v3:V1) (A1:Nat→Int),x=v3.v∧hs=l++[bn true v3 32 A1]∧
 ∃(mN:Ext→Prop) (qs:Ext→Nat),(∃(v4:V1) (x2:Int) (A2:Nat→Int),v4=v3∧v4=v2∧x2=x0∧(∀j,j<(ag x2)→A2 j=A0 j)∧mN ⟨[],[v4],[x2],[A2],[],[],[]⟩)∧
 ∀(v4:V1) (x2:Int) (A2:Nat→Int),mN ⟨[],[v4],[x2],[A2],[],[],[]⟩→
 ao (0≤x2) (
 aR (x2<64) (
 ∀_:Nat,gV ((x2+1)*1) (
 ∀v5:V1,∃(lL:V1) (cf:Int) (dT:Nat→Int),lL=v5∧lL=v5∧cf=(x2+1)∧(∀j,j<(ag cf)→dT j=(aq A2 (ag x2) 0) j)∧mN ⟨[],[lL],[cf],[dT],[],[],[]⟩∧qs ⟨[],[lL],[cf],[dT],[],[],[]⟩<qs ⟨[],[v4],[x2],[A2],[],[],[]⟩)) (
 ∃(wV:Ext→Prop) (C8:Ext→Nat),(∃(x3:Int) (A3:Nat→Int),x3=0∧(∀j,j<(ag x2)→A3 j=A2 j)∧wV ⟨[],[],[x3],[A3],[],[],[]⟩)∧
 ∀(x3:Int) (A3:Nat→Int),wV ⟨[],[],[x3],[A3],[],[],[]⟩→
 ao (0≤x2) (
 aR (x3<x2) (
 ao (0≤x3) (
 bH (x3+1) ((
 ∃(dt:Int) (kW:Nat→Int),dt=(x3+1)∧(∀j,j<(ag x2)→kW j=(aq A3 (ag x3) (ak .ay .u8 (A3 (ag x3)) x1)) j)∧wV ⟨[],[],[dt],[kW],[],[],[]⟩∧C8 ⟨[],[],[dt],[kW],[],[],[]⟩<C8 ⟨[],[],[x3],[A3],[],[],[]⟩)))) (
 ar (v4.v) [bo v4 x2 A3,bn true v3 32 A1]))))) (
 ∃(mN:Ext→Prop) (qs:Ext→Nat),(∃(v3:V1) (x2:Int) (A1:Nat→Int),v3=v2∧v3=v2∧x2=x0∧(∀j,j<(ag x2)→A1 j=A0 j)∧mN ⟨[],[v3],[x2],[A1],[],[],[]⟩)∧
 ∀(v3:V1) (x2:Int) (A1:Nat→Int),mN ⟨[],[v3],[x2],[A1],[],[],[]⟩→
 ao (0≤x2) (
 aR (x2<64) (
 ∀_:Nat,gV ((x2+1)*1) (
 ∀v4:V1,∃(Hr:V1) (cf:Int) (qW:Nat→Int),Hr=v4∧Hr=v4∧cf=(x2+1)∧(∀j,j<(ag cf)→qW j=(aq A1 (ag x2) 0) j)∧mN ⟨[],[Hr],[cf],[qW],[],[],[]⟩∧qs ⟨[],[Hr],[cf],[qW],[],[],[]⟩<qs ⟨[],[v3],[x2],[A1],[],[],[]⟩)) (
 ∃(wV:Ext→Prop) (C8:Ext→Nat),(∃(x3:Int) (A2:Nat→Int),x3=0∧(∀j,j<(ag x2)→A2 j=A1 j)∧wV ⟨[],[],[x3],[A2],[],[],[]⟩)∧
 ∀(x3:Int) (A2:Nat→Int),wV ⟨[],[],[x3],[A2],[],[],[]⟩→
 ao (0≤x2) (
 aR (x3<x2) (
 ao (0≤x3) (
 bH (x3+1) ((
 ∃(dt:Int) (dT:Nat→Int),dt=(x3+1)∧(∀j,j<(ag x2)→dT j=(aq A2 (ag x3) (ak .ay .u8 (A2 (ag x3)) x1)) j)∧wV ⟨[],[],[dt],[dT],[],[],[]⟩∧C8 ⟨[],[],[dt],[dT],[],[],[]⟩<C8 ⟨[],[],[x3],[A2],[],[],[]⟩)))) (
 ar (v3.v) [bi v0 x0 A0,bo v3 x2 A2]))))))))
theorem LU(ar:PT)(x0 x1:Int)(A0:Nat→Int)(v0:V1)(h:Dm ar x0 x1 A0 v0):aw ae0 129 [.int .u8 1,v0.v,.int .u8 x1] [bi v0 x0 A0] ar:=
 mK (C:=Fn.cx) [.int .u8 (.lit 1),.vv 0,.int .u8 (.var 1)] [.bC false 0 5 1 (.var 0) [⟨.int .u8,1,.aL 0⟩]] ⟨0,1,2,1,0,0,0⟩ ⟨[x0,x1],[A0],[],[],[v0],[],[],[]⟩ 0 2 Tryz.func129 (by kernel_rfl) h
def HH(ar:PT)(x0 x1:Int)(A0 A1:Nat→Int)(v0 _:V1):Prop:=
 Cl 129 [.int .u8 1,v0.v,.int .u8 54] [bi v0 x0 A0] fun x hs l=> ∃(v2:V1) (A2:Nat→Int),x=v2.v∧hs=l++[bn true v2 64 A2]∧
 ao (0≤x1) (
 ao (0≤x1) (
 gV (64+x1) (
 ∀v3:V1,Cl 128 [.int .u8 1,v3.v] [bo v3 (64+x1) (aI A2 64 (ag x1) A1)] fun x hs l=> ∃(v4:V1) (A3:Nat→Int),x=v4.v∧hs=l++[bn true v4 32 A3]∧
 Cl 129 [.int .u8 1,v0.v,.int .u8 92] [bi v0 x0 A0] fun x hs l=> ∃(v5:V1) (A4:Nat→Int),x=v5.v∧hs=l++[bn true v5 64 A4]∧
 ∀v6:V1,Cl 128 [.int .u8 1,v6.v] [bn true v6 96 (aI A4 64 32 A3)] fun x hs l=> ∃(v7:V1) (A5:Nat→Int),x=v7.v∧hs=l++[bn true v7 32 A5]∧
 ar (v7.v) [bn true v7 32 A5])))
theorem PA(ar:PT)(x0 x1:Int)(A0 A1:Nat→Int)(v0 v1:V1)(h:HH ar x0 x1 A0 A1 v0 v1):aw ae0 104 [.int .u8 1,v0.v,v1.v] [bi v0 x0 A0,bi v1 x1 A1] ar:=
 mK (C:=Fn.cx) [.int .u8 (.lit 1),.vv 0,.vv 1] [.bC false 0 5 1 (.var 0) [⟨.int .u8,1,.aL 0⟩],.bC false 1 5 1 (.var 1) [⟨.int .u8,1,.aL 1⟩]] ⟨0,2,2,2,0,0,0⟩ ⟨[x0,x1],[A0,A1],[],[],[v0,v1],[],[],[]⟩ 0 1 Tryz.func104 (by kernel_rfl) h
end Go.RX.Fn
