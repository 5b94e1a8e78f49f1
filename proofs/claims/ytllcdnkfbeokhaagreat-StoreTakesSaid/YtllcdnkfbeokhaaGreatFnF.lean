/- Sums and MACs. -/
import Derived.Test.YtllcdnkfbeokhaaGreatM44
open Go.IntKind renaming wrap → ae
open Go.Proofs.Tryz renaming prog → aqQ
open Int renaming toNat → ag
namespace Go.RX.Fn
open Go.RX Go.Proofs Go.RX.Fe Go.RX.Fg Go.RX.Fi Go.RX.Fj Go.RX.Fk Go.RX.Fl Go.RX.Fm
noncomputable def cx:Ctx:={T:=TT,FT:=FT,loops:=Fn.loops,bj:=Fn.bj}
set_option maxRecDepth 100000
def yj(al:PT)(x0:Int):Prop:=
 ∃(cE:Ext→Prop) (db:Ext→Nat),(∃x1 x2:Int,x1=1∧x2=0∧cE ⟨[],[],[x1,x2],[],[],[],[]⟩)∧
 ∀x1 x2:Int,cE ⟨[],[],[x1,x2],[],[],[],[]⟩→
 br (x2<x0) (
 iQ (x2+1) ((
 ∃ku gI:Int,ku=(ae .u64 (2*x1))∧gI=(x2+1)∧cE ⟨[],[],[ku,gI],[],[],[],[]⟩∧db ⟨[],[],[ku,gI],[],[],[],[]⟩<db ⟨[],[],[x1,x2],[],[],[],[]⟩))) (
 al (.int .u64 x1) [])
theorem LX(al:PT)(x0:Int)(h:yj al x0):aq aqQ 61 [.int .i64 x0] [] al:=
 mtB (C:=Fn.cx) [.int .i64 (.var 0)] [] ⟨0,0,1,0,0,0,0⟩ ⟨[x0],[],[],[],[],[],[],[]⟩ Tryz.func61 (by kernel_rfl) h
def AW(al:PT):Prop:=
 ∀b0:Nat,al (.slice (some ⟨b0,0,none⟩) 80 80) [ak b0 true ([.int .u64 4794697086780616226,.int .u64 8158064640168781261,.int .u64 13096744586834688815,.int .u64 16840607885511220156,.int .u64 4131703408338449720,.int .u64 6480981068601479193,.int .u64 10538285296894168987,.int .u64 12329834152419229976,.int .u64 15566598209576043074,.int .u64 1334009975649890238,.int .u64 2608012711638119052,.int .u64 6128411473006802146,.int .u64 8268148722764581231,.int .u64 9286055187155687089,.int .u64 11230858885718282805,.int .u64 13951009754708518548,.int .u64 16472876342353939154,.int .u64 17275323862435702243,.int .u64 1135362057144423861,.int .u64 2597628984639134821,.int .u64 3308224258029322869,.int .u64 5365058923640841347,.int .u64 6679025012923562964,.int .u64 8573033837759648693,.int .u64 10970295158949994411,.int .u64 12119686244451234320,.int .u64 12683024718118986047,.int .u64 13788192230050041572,.int .u64 14330467153632333762,.int .u64 15395433587784984357,.int .u64 489312712824947311,.int .u64 1452737877330783856,.int .u64 2861767655752347644,.int .u64 3322285676063803686,.int .u64 5560940570517711597,.int .u64 5996557281743188959,.int .u64 7280758554555802590,.int .u64 8532644243296465576,.int .u64 9350256976987008742,.int .u64 10552545826968843579,.int .u64 11727347734174303076,.int .u64 12113106623233404929,.int .u64 14000437183269869457,.int .u64 14369950271660146224,.int .u64 15101387698204529176,.int .u64 15463397548674623760,.int .u64 17586052441742319658,.int .u64 1182934255886127544,.int .u64 1847814050463011016,.int .u64 2177327727835720531,.int .u64 2830643537854262169,.int .u64 3796741975233480872,.int .u64 4115178125766777443,.int .u64 5681478168544905931,.int .u64 6601373596472566643,.int .u64 7507060721942968483,.int .u64 8399075790359081724,.int .u64 8693463985226723168,.int .u64 9568029438360202098,.int .u64 10144078919501101548,.int .u64 10430055236837252648,.int .u64 11840083180663258601,.int .u64 13761210420658862357,.int .u64 14299343276471374635,.int .u64 14566680578165727644,.int .u64 15097957966210449927,.int .u64 16922976911328602910,.int .u64 17689382322260857208,.int .u64 500013540394364858,.int .u64 748580250866718886,.int .u64 1242879168328830382,.int .u64 1977374033974150939,.int .u64 2944078676154940804,.int .u64 3659926193048069267,.int .u64 4368137639120453308,.int .u64 4836135668995329356,.int .u64 5532061633213252278,.int .u64 6448918945643986474,.int .u64 6902733635092675308,.int .u64 7801388544844847127])]
theorem Jl(al:PT)(h:AW al):aq aqQ 60 [] [] al:=
 xp (C:=Fn.cx) [] [] ⟨0,0,0,0,0,0,0⟩ ⟨[],[],[],[],[],[],[],[]⟩ Tryz.func60 (by kernel_rfl) h
def Di(al:PT)(x0:Int):Prop:=
 Cl 61 [.int .i64 22] [] fun x hs _=>x= .int .u64 4194304∧hs=[]∧
 Cl 61 [.int .i64 22] [] fun x hs _=>x= .int .u64 4194304∧hs=[]∧
 Cl 61 [.int .i64 10] [] fun x hs _=>x= .int .u64 1024∧hs=[]∧
 Cl 61 [.int .i64 32] [] fun x hs _=>x= .int .u64 4294967296∧hs=[]∧
 Cl 61 [.int .i64 2] [] fun x hs _=>x= .int .u64 4∧hs=[]∧
 Cl 61 [.int .i64 30] [] fun x hs _=>x= .int .u64 1073741824∧hs=[]∧
 Cl 61 [.int .i64 32] [] fun x hs _=>x= .int .u64 4294967296∧hs=[]∧
 Cl 61 [.int .i64 13] [] fun x hs _=>x= .int .u64 8192∧hs=[]∧
 Cl 61 [.int .i64 19] [] fun x hs _=>x= .int .u64 524288∧hs=[]∧
 Cl 61 [.int .i64 32] [] fun x hs _=>x= .int .u64 4294967296∧hs=[]∧
 al (.int .u64 (ar .cy .u64 (ar .cy .u64 (ae .u64 ((ae .u64 (ar .quo .u64 x0 4))+(ar .rem .u64 (ae .u64 (x0*1073741824)) 4294967296))) (ae .u64 ((ae .u64 (ar .quo .u64 x0 8192))+(ar .rem .u64 (ae .u64 (x0*524288)) 4294967296)))) (ae .u64 ((ae .u64 (ar .quo .u64 x0 4194304))+(ar .rem .u64 (ae .u64 (x0*1024)) 4294967296))))) []
theorem LY(al:PT)(x0:Int)(h:Di al x0):aq aqQ 64 [.int .i64 0,.int .u64 x0,.int .i64 32] [] al:=
 xp (C:=Fn.cx) [.int .i64 (.lit 0),.int .u64 (.var 0),.int .i64 (.lit 32)] [] ⟨0,0,1,0,0,0,0⟩ ⟨[x0],[],[],[],[],[],[],[]⟩ Tryz.func64 (by kernel_rfl) h
def Dj(al:PT)(x0:Int):Prop:=
 Cl 61 [.int .i64 25] [] fun x hs _=>x= .int .u64 33554432∧hs=[]∧
 Cl 61 [.int .i64 25] [] fun x hs _=>x= .int .u64 33554432∧hs=[]∧
 Cl 61 [.int .i64 7] [] fun x hs _=>x= .int .u64 128∧hs=[]∧
 Cl 61 [.int .i64 32] [] fun x hs _=>x= .int .u64 4294967296∧hs=[]∧
 Cl 61 [.int .i64 6] [] fun x hs _=>x= .int .u64 64∧hs=[]∧
 Cl 61 [.int .i64 26] [] fun x hs _=>x= .int .u64 67108864∧hs=[]∧
 Cl 61 [.int .i64 32] [] fun x hs _=>x= .int .u64 4294967296∧hs=[]∧
 Cl 61 [.int .i64 11] [] fun x hs _=>x= .int .u64 2048∧hs=[]∧
 Cl 61 [.int .i64 21] [] fun x hs _=>x= .int .u64 2097152∧hs=[]∧
 Cl 61 [.int .i64 32] [] fun x hs _=>x= .int .u64 4294967296∧hs=[]∧
 al (.int .u64 (ar .cy .u64 (ar .cy .u64 (ae .u64 ((ae .u64 (ar .quo .u64 x0 64))+(ar .rem .u64 (ae .u64 (x0*67108864)) 4294967296))) (ae .u64 ((ae .u64 (ar .quo .u64 x0 2048))+(ar .rem .u64 (ae .u64 (x0*2097152)) 4294967296)))) (ae .u64 ((ae .u64 (ar .quo .u64 x0 33554432))+(ar .rem .u64 (ae .u64 (x0*128)) 4294967296))))) []
theorem LZ(al:PT)(x0:Int)(h:Dj al x0):aq aqQ 64 [.int .i64 1,.int .u64 x0,.int .i64 32] [] al:=
 xp (C:=Fn.cx) [.int .i64 (.lit 1),.int .u64 (.var 0),.int .i64 (.lit 32)] [] ⟨0,0,1,0,0,0,0⟩ ⟨[x0],[],[],[],[],[],[],[]⟩ Tryz.func64 (by kernel_rfl) h
def Dk(al:PT)(x0:Int):Prop:=
 Cl 61 [.int .i64 3] [] fun x hs _=>x= .int .u64 8∧hs=[]∧
 Cl 61 [.int .i64 7] [] fun x hs _=>x= .int .u64 128∧hs=[]∧
 Cl 61 [.int .i64 25] [] fun x hs _=>x= .int .u64 33554432∧hs=[]∧
 Cl 61 [.int .i64 32] [] fun x hs _=>x= .int .u64 4294967296∧hs=[]∧
 Cl 61 [.int .i64 18] [] fun x hs _=>x= .int .u64 262144∧hs=[]∧
 Cl 61 [.int .i64 14] [] fun x hs _=>x= .int .u64 16384∧hs=[]∧
 Cl 61 [.int .i64 32] [] fun x hs _=>x= .int .u64 4294967296∧hs=[]∧
 al (.int .u64 (ar .cy .u64 (ar .cy .u64 (ae .u64 ((ae .u64 (ar .quo .u64 x0 128))+(ar .rem .u64 (ae .u64 (x0*33554432)) 4294967296))) (ae .u64 ((ae .u64 (ar .quo .u64 x0 262144))+(ar .rem .u64 (ae .u64 (x0*16384)) 4294967296)))) (ae .u64 (ar .quo .u64 x0 8)))) []
theorem L0(al:PT)(x0:Int)(h:Dk al x0):aq aqQ 64 [.int .i64 2,.int .u64 x0,.int .i64 32] [] al:=
 xp (C:=Fn.cx) [.int .i64 (.lit 2),.int .u64 (.var 0),.int .i64 (.lit 32)] [] ⟨0,0,1,0,0,0,0⟩ ⟨[x0],[],[],[],[],[],[],[]⟩ Tryz.func64 (by kernel_rfl) h
def Dl(al:PT)(x0:Int):Prop:=
 Cl 61 [.int .i64 10] [] fun x hs _=>x= .int .u64 1024∧hs=[]∧
 Cl 61 [.int .i64 17] [] fun x hs _=>x= .int .u64 131072∧hs=[]∧
 Cl 61 [.int .i64 15] [] fun x hs _=>x= .int .u64 32768∧hs=[]∧
 Cl 61 [.int .i64 32] [] fun x hs _=>x= .int .u64 4294967296∧hs=[]∧
 Cl 61 [.int .i64 19] [] fun x hs _=>x= .int .u64 524288∧hs=[]∧
 Cl 61 [.int .i64 13] [] fun x hs _=>x= .int .u64 8192∧hs=[]∧
 Cl 61 [.int .i64 32] [] fun x hs _=>x= .int .u64 4294967296∧hs=[]∧
 al (.int .u64 (ar .cy .u64 (ar .cy .u64 (ae .u64 ((ae .u64 (ar .quo .u64 x0 131072))+(ar .rem .u64 (ae .u64 (x0*32768)) 4294967296))) (ae .u64 ((ae .u64 (ar .quo .u64 x0 524288))+(ar .rem .u64 (ae .u64 (x0*8192)) 4294967296)))) (ae .u64 (ar .quo .u64 x0 1024)))) []
theorem L4(al:PT)(x0:Int)(h:Dl al x0):aq aqQ 64 [.int .i64 3,.int .u64 x0,.int .i64 32] [] al:=
 xp (C:=Fn.cx) [.int .i64 (.lit 3),.int .u64 (.var 0),.int .i64 (.lit 32)] [] ⟨0,0,1,0,0,0,0⟩ ⟨[x0],[],[],[],[],[],[],[]⟩ Tryz.func64 (by kernel_rfl) h
def Dm(al:PT)(x0 x1:Int)(A0:Nat→Int)(v0:V1):Prop:=
 Cl 61 [.int .i64 32] [] fun x hs _=>x= .int .u64 4294967296∧hs=[]∧
 Cl 64 [.int .i64 1,.int .u64 (A0 4),.int .i64 32] [] fun x hs _=> ∃x2:Int,x= .int .u64 x2∧hs=[]∧
 Cl 61 [.int .i64 32] [] fun x hs _=>x= .int .u64 4294967296∧hs=[]∧
 Cl 64 [.int .i64 0,.int .u64 (A0 0),.int .i64 32] [] fun x hs _=> ∃x3:Int,x= .int .u64 x3∧hs=[]∧
 Cl 61 [.int .i64 32] [] fun x hs _=>x= .int .u64 4294967296∧hs=[]∧
 Cl 61 [.int .i64 32] [] fun x hs _=>x= .int .u64 4294967296∧hs=[]∧
 Cl 61 [.int .i64 32] [] fun x hs _=>x= .int .u64 4294967296∧hs=[]∧
 ∀b0:Nat,al (.slice (some ⟨b0,0,none⟩) 8 8) [aB true 24 1 v0.v 8 (aK 8 [aC .u64 1 A0]),ak b0 true ([.int .u64 (ar .rem .u64 (ae .u64 ((ar .rem .u64 (ae .u64 ((ae .u64 ((ae .u64 ((ae .u64 ((A0 7)+x2))+(ar .cy .u64 (ar .fJ .u64 (A0 4) (A0 5)) (ar .fJ .u64 (ae .u64 (4294967295 - (A0 4))) (A0 6)))))+x0))+x1)) 4294967296)+(ar .rem .u64 (ae .u64 (x3+(ar .cy .u64 (ar .cy .u64 (ar .fJ .u64 (A0 0) (A0 1)) (ar .fJ .u64 (A0 0) (A0 2))) (ar .fJ .u64 (A0 1) (A0 2))))) 4294967296))) 4294967296),.int .u64 (A0 0),.int .u64 (A0 1),.int .u64 (A0 2),.int .u64 (ar .rem .u64 (ae .u64 ((A0 3)+(ar .rem .u64 (ae .u64 ((ae .u64 ((ae .u64 ((ae .u64 ((A0 7)+x2))+(ar .cy .u64 (ar .fJ .u64 (A0 4) (A0 5)) (ar .fJ .u64 (ae .u64 (4294967295 - (A0 4))) (A0 6)))))+x0))+x1)) 4294967296))) 4294967296),.int .u64 (A0 4),.int .u64 (A0 5),.int .u64 (A0 6)])]
theorem L_(al:PT)(x0 x1:Int)(A0:Nat→Int)(v0:V1)(h:Dm al x0 x1 A0 v0):aq aqQ 65 [v0.v,.int .u64 x0,.int .u64 x1,.int .i64 32] [aB true 24 1 v0.v 8 (aK 8 [aC .u64 1 A0])] al:=
 xp (C:=Fn.cx) [.vv 0,.int .u64 (.var 0),.int .u64 (.var 1),.int .i64 (.lit 32)] [.cr true 0 24 1 (.lit 8) [⟨.int .u64,1,.cI 0⟩]] ⟨0,1,2,1,0,0,0⟩ ⟨[x0,x1],[A0],[],[],[v0],[],[],[]⟩ Tryz.func65 (by kernel_rfl) h
def yl(al:PT)(x0:Int)(A0:Nat→Int)(_:V1):Prop:=
 ∀_:V1,ax (0≤x0) (
 ax (0≤x0) (
 kE x0 (
 ∀(_:V1) (b0:Nat),kE ((x0+1)*1) (
 ∀v3:V1,∃(cE:Ext→Prop) (db:Ext→Nat),(∃(v4:V1) (x1:Int) (A1:Nat→Int),v4=v3∧v4=v3∧x1=(x0+1)∧(∀j,j<(ag x1)→A1 j=(aw A0 (ag x0) 128) j)∧cE ⟨[],[v4],[x1],[A1],[],[],[]⟩)∧
 ∀(v4:V1) (x1:Int) (A1:Nat→Int),cE ⟨[],[v4],[x1],[A1],[],[],[]⟩→
 ax (0≤x1) (
 br (¬((ar .rem .i64 x1 64)=56)) (
 ∀_:Nat,kE ((x1+1)*1) (
 ∀v5:V1,∃(oV:V1) (ku:Int) (Ma:Nat→Int),oV=v5∧oV=v5∧ku=(x1+1)∧(∀j,j<(ag ku)→Ma j=(aw A1 (ag x1) 0) j)∧cE ⟨[],[oV],[ku],[Ma],[],[],[]⟩∧db ⟨[],[oV],[ku],[Ma],[],[],[]⟩<db ⟨[],[v4],[x1],[A1],[],[],[]⟩)) (
 ∀v5:V1,ax (0≤x0) (
 kE (x1+8) (
 ∀v6:V1,al (v6.v) [bo v6 (x1+8) (bQ A1 (ag x1) 8 (aw (aw (aw (aw (aw (aw (aw (aw (fun _=>0) 7 (ae .u8 (ar .rem .u64 (ae .u64 (8*(ae .u64 x0))) 256))) 6 (ae .u8 (ar .rem .u64 (ae .u64 (ar .quo .u64 (ae .u64 (8*(ae .u64 x0))) 256)) 256))) 5 (ae .u8 (ar .rem .u64 (ae .u64 (ar .quo .u64 (ae .u64 (ar .quo .u64 (ae .u64 (8*(ae .u64 x0))) 256)) 256)) 256))) 4 (ae .u8 (ar .rem .u64 (ae .u64 (ar .quo .u64 (ae .u64 (ar .quo .u64 (ae .u64 (ar .quo .u64 (ae .u64 (8*(ae .u64 x0))) 256)) 256)) 256)) 256))) 3 (ae .u8 (ar .rem .u64 (ae .u64 (ar .quo .u64 (ae .u64 (ar .quo .u64 (ae .u64 (ar .quo .u64 (ae .u64 (ar .quo .u64 (ae .u64 (8*(ae .u64 x0))) 256)) 256)) 256)) 256)) 256))) 2 (ae .u8 (ar .rem .u64 (ae .u64 (ar .quo .u64 (ae .u64 (ar .quo .u64 (ae .u64 (ar .quo .u64 (ae .u64 (ar .quo .u64 (ae .u64 (ar .quo .u64 (ae .u64 (8*(ae .u64 x0))) 256)) 256)) 256)) 256)) 256)) 256))) 1 (ae .u8 (ar .rem .u64 (ae .u64 (ar .quo .u64 (ae .u64 (ar .quo .u64 (ae .u64 (ar .quo .u64 (ae .u64 (ar .quo .u64 (ae .u64 (ar .quo .u64 (ae .u64 (ar .quo .u64 (ae .u64 (8*(ae .u64 x0))) 256)) 256)) 256)) 256)) 256)) 256)) 256))) 0 (ae .u8 (ar .rem .u64 (ae .u64 (ar .quo .u64 (ae .u64 (ar .quo .u64 (ae .u64 (ar .quo .u64 (ae .u64 (ar .quo .u64 (ae .u64 (ar .quo .u64 (ae .u64 (ar .quo .u64 (ae .u64 (ar .quo .u64 (ae .u64 (8*(ae .u64 x0))) 256)) 256)) 256)) 256)) 256)) 256)) 256)) 256)))),ak b0 true ([.int .u8 128]),bn true v5 8 (aw (aw (aw (aw (aw (aw (aw (aw (fun _=>0) 7 (ae .u8 (ar .rem .u64 (ae .u64 (8*(ae .u64 x0))) 256))) 6 (ae .u8 (ar .rem .u64 (ae .u64 (ar .quo .u64 (ae .u64 (8*(ae .u64 x0))) 256)) 256))) 5 (ae .u8 (ar .rem .u64 (ae .u64 (ar .quo .u64 (ae .u64 (ar .quo .u64 (ae .u64 (8*(ae .u64 x0))) 256)) 256)) 256))) 4 (ae .u8 (ar .rem .u64 (ae .u64 (ar .quo .u64 (ae .u64 (ar .quo .u64 (ae .u64 (ar .quo .u64 (ae .u64 (8*(ae .u64 x0))) 256)) 256)) 256)) 256))) 3 (ae .u8 (ar .rem .u64 (ae .u64 (ar .quo .u64 (ae .u64 (ar .quo .u64 (ae .u64 (ar .quo .u64 (ae .u64 (ar .quo .u64 (ae .u64 (8*(ae .u64 x0))) 256)) 256)) 256)) 256)) 256))) 2 (ae .u8 (ar .rem .u64 (ae .u64 (ar .quo .u64 (ae .u64 (ar .quo .u64 (ae .u64 (ar .quo .u64 (ae .u64 (ar .quo .u64 (ae .u64 (ar .quo .u64 (ae .u64 (8*(ae .u64 x0))) 256)) 256)) 256)) 256)) 256)) 256))) 1 (ae .u8 (ar .rem .u64 (ae .u64 (ar .quo .u64 (ae .u64 (ar .quo .u64 (ae .u64 (ar .quo .u64 (ae .u64 (ar .quo .u64 (ae .u64 (ar .quo .u64 (ae .u64 (ar .quo .u64 (ae .u64 (8*(ae .u64 x0))) 256)) 256)) 256)) 256)) 256)) 256)) 256))) 0 (ae .u8 (ar .rem .u64 (ae .u64 (ar .quo .u64 (ae .u64 (ar .quo .u64 (ae .u64 (ar .quo .u64 (ae .u64 (ar .quo .u64 (ae .u64 (ar .quo .u64 (ae .u64 (ar .quo .u64 (ae .u64 (ar .quo .u64 (ae .u64 (8*(ae .u64 x0))) 256)) 256)) 256)) 256)) 256)) 256)) 256)) 256)))]))))))))
theorem F9(al:PT)(x0:Int)(A0:Nat→Int)(v0:V1)(h:yl al x0 A0 v0):aq aqQ 62 [v0.v,.int .i64 32] [bi v0 x0 A0] al:=
 mtE (C:=Fn.cx) [.vv 0,.int .i64 (.lit 32)] [.cr false 0 5 1 (.var 0) [⟨.int .u8,1,.cI 0⟩]] ⟨0,1,1,1,0,0,0⟩ ⟨[x0],[A0],[],[],[v0],[],[],[]⟩ 0 3 Tryz.func62 (by kernel_rfl) h
def H7(al:PT)(x0:Int)(A0:Nat→Int)(v0:V1):Prop:=
 ∀_:Nat,Cl 60 [] [] fun x hs _=> ∃(v1:V1) (A1:Nat→Int),x=v1.v∧hs=[aB true 24 1 v1.v 80 (aK 80 [aC .u64 1 A1])]∧
 Cl 61 [.int .i64 32] [] fun x hs _=>x= .int .u64 4294967296∧hs=[]∧
 Cl 62 [v0.v,.int .i64 32] [bi v0 x0 A0] fun x hs l=> ∃(v2:V1) (x1:Int) (A2:Nat→Int),x=v2.v∧hs=l++[bo v2 x1 A2]∧
 ∃(cE:Ext→Prop) (db:Ext→Nat),(∃x2 x3 x4 x5 x6 x7 x8 x9 bE:Int,bE=0∧x2=1779033703∧x3=3144134277∧x4=1013904242∧x5=2773480762∧x6=1359893119∧x7=2600822924∧x8=528734635∧x9=1541459225∧cE ⟨[],[],[x2,x3,x4,x5,x6,x7,x8,x9,bE],[],[],[],[]⟩)∧
 ∀x2 x3 x4 x5 x6 x7 x8 x9 bE:Int,cE ⟨[],[],[x2,x3,x4,x5,x6,x7,x8,x9,bE],[],[],[],[]⟩→
 ax (0≤x1) (
 br (bE<x1) (
 ∃(ym:Ext→Prop) (Dn:Ext→Nat),(∃(v4:V1) (bM:Int) (A3:Nat→Int),bM=0∧v4=(⟨.slice none 0 0,rfl⟩:V1)∧v4=(⟨.slice none 0 0,rfl⟩:V1)∧bM=0∧(∀j,j<(ag bM)→A3 j=(fun _=>0) j)∧ym ⟨[],[v4],[bM],[A3],[],[],[]⟩)∧
 ∀(v4:V1) (bM:Int) (A3:Nat→Int),ym ⟨[],[v4],[bM],[A3],[],[],[]⟩→
 br (bM<16) (
 iQ (bM*32) ((
 iQ (bE+(ae .i64 (ar .quo .i64 (bM*32) 8))) ((
 ax (0≤(bE+(ae .i64 (ar .quo .i64 (bM*32) 8)))) (
 ax ((bE+(ae .i64 (ar .quo .i64 (bM*32) 8)))<x1) (
 iQ ((bE+(ae .i64 (ar .quo .i64 (bM*32) 8)))+1) ((
 ax (0≤((bE+(ae .i64 (ar .quo .i64 (bM*32) 8)))+1)) (
 ax (((bE+(ae .i64 (ar .quo .i64 (bM*32) 8)))+1)<x1) (
 iQ ((bE+(ae .i64 (ar .quo .i64 (bM*32) 8)))+2) ((
 ax (0≤((bE+(ae .i64 (ar .quo .i64 (bM*32) 8)))+2)) (
 ax (((bE+(ae .i64 (ar .quo .i64 (bM*32) 8)))+2)<x1) (
 iQ ((bE+(ae .i64 (ar .quo .i64 (bM*32) 8)))+3) ((
 ax (0≤((bE+(ae .i64 (ar .quo .i64 (bM*32) 8)))+3)) (
 ax (((bE+(ae .i64 (ar .quo .i64 (bM*32) 8)))+3)<x1) (
 ∀_:Nat,ax (0≤bM) (
 kE ((bM+1)*8) (
 ∀v5:V1,iQ (bM+1) ((
 ∃(oV:V1) (pU:Int) (p_:Nat→Int),pU=(bM+1)∧oV=v5∧oV=v5∧pU=(bM+1)∧(∀j,j<(ag pU)→p_ j=(aw A3 (ag bM) (ae .u64 ((ae .u64 (256*(ae .u64 ((ae .u64 (256*(ae .u64 ((ae .u64 (256*(ae .u64 (ae .u64 (A2 (ag (bE+(ae .i64 (ar .quo .i64 (bM*32) 8)))))))))+(ae .u64 (A2 (ag ((bE+(ae .i64 (ar .quo .i64 (bM*32) 8)))+1))))))))+(ae .u64 (A2 (ag ((bE+(ae .i64 (ar .quo .i64 (bM*32) 8)))+2))))))))+(ae .u64 (A2 (ag ((bE+(ae .i64 (ar .quo .i64 (bM*32) 8)))+3))))))) j)∧ym ⟨[],[oV],[pU],[p_],[],[],[]⟩∧Dn ⟨[],[oV],[pU],[p_],[],[],[]⟩<Dn ⟨[],[v4],[bM],[A3],[],[],[]⟩))))))))))))))))))))))) (
 ∃(UE:Ext→Prop) (YF:Ext→Nat),(∃(v5:V1) (bP:Int) (A4:Nat→Int),bP=16∧v5=v4∧v5=v4∧bP=bM∧(∀j,j<(ag bP)→A4 j=A3 j)∧UE ⟨[],[v5],[bP],[A4],[],[],[]⟩)∧
 ∀(v5:V1) (bP:Int) (A4:Nat→Int),UE ⟨[],[v5],[bP],[A4],[],[],[]⟩→
 br (bP<64) (
 iQ (bP - 2) ((
 ax (0≤(bP - 2)) (
 ax ((bP - 2)<bP) (
 iQ (bP - 7) ((
 ax (0≤(bP - 7)) (
 ax ((bP - 7)<bP) (
 iQ (bP - 15) ((
 ax (0≤(bP - 15)) (
 ax ((bP - 15)<bP) (
 iQ (bP - 16) ((
 ax (0≤(bP - 16)) (
 ax ((bP - 16)<bP) (
 Cl 64 [.int .i64 3,.int .u64 (A4 (ag (bP - 2))),.int .i64 32] [] fun x hs _=> ∃bI:Int,x= .int .u64 bI∧hs=[]∧
 Cl 64 [.int .i64 2,.int .u64 (A4 (ag (bP - 15))),.int .i64 32] [] fun x hs _=> ∃dW:Int,x= .int .u64 dW∧hs=[]∧
 Cl 61 [.int .i64 32] [] fun x hs _=>x= .int .u64 4294967296∧hs=[]∧
 ∀_:Nat,ax (0≤bP) (
 kE ((bP+1)*8) (
 ∀v6:V1,iQ (bP+1) ((
 ∃(H8:V1) (Av:Int) (yn:Nat→Int),Av=(bP+1)∧H8=v6∧H8=v6∧Av=(bP+1)∧(∀j,j<(ag Av)→yn j=(aw A4 (ag bP) (ar .rem .u64 (ae .u64 ((ae .u64 ((ae .u64 (bI+(A4 (ag (bP - 7)))))+dW))+(A4 (ag (bP - 16))))) 4294967296)) j)∧UE ⟨[],[H8],[Av],[yn],[],[],[]⟩∧YF ⟨[],[H8],[Av],[yn],[],[],[]⟩<YF ⟨[],[v5],[bP],[A4],[],[],[]⟩))))))))))))))))))))) (
 ∀_ v7:V1,∃(Mb:Ext→Prop) (Tz:Ext→Nat),(∃(v8:V1) (bI:Int) (A5:Nat→Int),bI=0∧v8=v7∧v8=v7∧(∀j,j<8→A5 j=(aw (aw (aw (aw (aw (aw (aw (aw (fun _=>0) 0 x2) 1 x3) 2 x4) 3 x5) 4 x6) 5 x7) 6 x8) 7 x9) j)∧Mb ⟨[],[v8],[bI],[A5],[],[],[]⟩)∧
 ∀(v8:V1) (bI:Int) (A5:Nat→Int),Mb ⟨[],[v8],[bI],[A5],[],[],[]⟩→
 br (bI<64) (
 ax (0≤bI) (
 ax (bI<80) (
 ax (bI<bP) (
 Cl 65 [v8.v,.int .u64 (ae .u64 (ar .quo .u64 (A1 (ag bI)) 4294967296)),.int .u64 (A4 (ag bI)),.int .i64 32] [aB true 24 1 v8.v 8 (aK 8 [aC .u64 1 A5])] fun x hs _=> ∃(v9:V1) (A6:Nat→Int),x=v9.v∧hs=[aB true 24 1 v9.v 8 (aK 8 [aC .u64 1 A6])]∧
 iQ (bI+1) ((
 ∃(v8':V1) (UF:Int) (BM:Nat→Int),UF=(bI+1)∧v8'=v9∧v8'=v9∧(∀j,j<8→BM j=A6 j)∧Mb ⟨[],[v8'],[UF],[BM],[],[],[]⟩∧Tz ⟨[],[v8'],[UF],[BM],[],[],[]⟩<Tz ⟨[],[v8],[bI],[A5],[],[],[]⟩)))))) (
 Cl 61 [.int .i64 32] [] fun x hs _=>x= .int .u64 4294967296∧hs=[]∧
 Cl 61 [.int .i64 32] [] fun x hs _=>x= .int .u64 4294967296∧hs=[]∧
 Cl 61 [.int .i64 32] [] fun x hs _=>x= .int .u64 4294967296∧hs=[]∧
 Cl 61 [.int .i64 32] [] fun x hs _=>x= .int .u64 4294967296∧hs=[]∧
 Cl 61 [.int .i64 32] [] fun x hs _=>x= .int .u64 4294967296∧hs=[]∧
 Cl 61 [.int .i64 32] [] fun x hs _=>x= .int .u64 4294967296∧hs=[]∧
 Cl 61 [.int .i64 32] [] fun x hs _=>x= .int .u64 4294967296∧hs=[]∧
 Cl 61 [.int .i64 32] [] fun x hs _=>x= .int .u64 4294967296∧hs=[]∧
 iQ (bE+64) ((
 ∃gI oU uR qg sx Mc LA sy yp:Int,yp=(bE+64)∧gI=(ar .rem .u64 (ae .u64 (x2+(A5 0))) 4294967296)∧oU=(ar .rem .u64 (ae .u64 (x3+(A5 1))) 4294967296)∧uR=(ar .rem .u64 (ae .u64 (x4+(A5 2))) 4294967296)∧qg=(ar .rem .u64 (ae .u64 (x5+(A5 3))) 4294967296)∧sx=(ar .rem .u64 (ae .u64 (x6+(A5 4))) 4294967296)∧Mc=(ar .rem .u64 (ae .u64 (x7+(A5 5))) 4294967296)∧LA=(ar .rem .u64 (ae .u64 (x8+(A5 6))) 4294967296)∧sy=(ar .rem .u64 (ae .u64 (x9+(A5 7))) 4294967296)∧cE ⟨[],[],[gI,oU,uR,qg,sx,Mc,LA,sy,yp],[],[],[],[]⟩∧db ⟨[],[],[gI,oU,uR,qg,sx,Mc,LA,sy,yp],[],[],[],[]⟩<db ⟨[],[],[x2,x3,x4,x5,x6,x7,x8,x9,bE],[],[],[],[]⟩)))))) (
 ∃(oW:Ext→Prop) (tz:Ext→Nat),(∃(v4:V1) (bM bP:Int) (A3 A4:Nat→Int),bM=0∧v4=(⟨.slice none 0 0,rfl⟩:V1)∧(∀j,j<8→A4 j=(aw (aw (aw (aw (aw (aw (aw (aw (fun _=>0) 0 x2) 1 x3) 2 x4) 3 x5) 4 x6) 5 x7) 6 x8) 7 x9) j)∧v4=(⟨.slice none 0 0,rfl⟩:V1)∧bP=0∧(∀j,j<(ag bP)→A3 j=(fun _=>0) j)∧oW ⟨[],[v4],[bM,bP],[A3,A4],[],[],[]⟩)∧
 ∀(v4:V1) (bM bP:Int) (A3 A4:Nat→Int),oW ⟨[],[v4],[bM,bP],[A3,A4],[],[],[]⟩→
 br (bM<8) (
 ax (0≤bM) (
 Cl 61 [.int .i64 24] [] fun x hs _=>x= .int .u64 16777216∧hs=[]∧
 ∀_:Nat,ax (0≤bP) (
 kE ((bP+1)*1) (
 ∀_:V1,Cl 61 [.int .i64 16] [] fun x hs _=>x= .int .u64 65536∧hs=[]∧
 ∀_:Nat,ax (0≤(bP+1)) (
 ax ((((bP+1)+1)*1)≤140737488355328) (
 ∀_:V1,Cl 61 [.int .i64 8] [] fun x hs _=>x= .int .u64 256∧hs=[]∧
 ∀_:Nat,ax (0≤((bP+1)+1)) (
 ax (((((bP+1)+1)+1)*1)≤140737488355328) (
 ∀_:V1,Cl 61 [.int .i64 0] [] fun x hs _=>x= .int .u64 1∧hs=[]∧
 ∀_:Nat,ax (0≤(((bP+1)+1)+1)) (
 ax ((((((bP+1)+1)+1)+1)*1)≤140737488355328) (
 ∀v8:V1,iQ (bM+1) ((
 ∃(oV:V1) (pU Av:Int) (p_ yn:Nat→Int),pU=(bM+1)∧oV=v8∧(∀j,j<8→yn j=A4 j)∧oV=v8∧Av=((((bP+1)+1)+1)+1)∧(∀j,j<(ag Av)→p_ j=(aw (aw (aw (aw A3 (ag bP) (ae .u8 (ar .rem .u64 (ae .u64 (ar .quo .u64 (A4 (ag bM)) 16777216)) 256))) (ag (bP+1)) (ae .u8 (ar .rem .u64 (ae .u64 (ar .quo .u64 (A4 (ag bM)) 65536)) 256))) (ag ((bP+1)+1)) (ae .u8 (ar .rem .u64 (ae .u64 (ar .quo .u64 (A4 (ag bM)) 256)) 256))) (ag (((bP+1)+1)+1)) (ae .u8 (ar .rem .u64 (ae .u64 (ar .quo .u64 (A4 (ag bM)) 1)) 256))) j)∧oW ⟨[],[oV],[pU,Av],[p_,yn],[],[],[]⟩∧tz ⟨[],[oV],[pU,Av],[p_,yn],[],[],[]⟩<tz ⟨[],[v4],[bM,bP],[A3,A4],[],[],[]⟩)))))))))))) (
 al (v4.v) [bo v4 bP A3])))
theorem QR(al:PT)(x0:Int)(A0:Nat→Int)(v0:V1)(h:H7 al x0 A0 v0):aq aqQ 33 [v0.v,.int .i64 32] [bi v0 x0 A0] al:=
 mtE (C:=Fn.cx) [.vv 0,.int .i64 (.lit 32)] [.cr false 0 5 1 (.var 0) [⟨.int .u8,1,.cI 0⟩]] ⟨0,1,1,1,0,0,0⟩ ⟨[x0],[A0],[],[],[v0],[],[],[]⟩ 0 1 Tryz.func33 (by kernel_rfl) h
end Go.RX.Fn
