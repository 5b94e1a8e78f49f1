/- Sums and MACs. -/
import Derived.Test.YtllcdnkfbeokhaaGreatM42
open Go.IntKind renaming wrap → ae
open Go.Proofs.Tryz renaming prog → auN
open Int renaming toNat → ag
namespace Go.RX.Fn
open Go.RX Go.Proofs Go.RX.Fe Go.RX.Fg Go.RX.Fi Go.RX.Fj Go.RX.Fk Go.RX.Fl Go.RX.Fm
noncomputable def cx:Ctx:={T:=TT,FT:=FT,loops:=Fn.loops,br:=Fn.br}
set_option maxRecDepth 100000
def zJ(al:PT)(x0:Int):Prop:=
 ∃(cH:Ext→Prop) (dp:Ext→Nat),(∃x1 x2:Int,x1=1∧x2=0∧cH ⟨[],[],[x1,x2],[],[],[],[]⟩)∧
 ∀x1 x2:Int,cH ⟨[],[],[x1,x2],[],[],[],[]⟩→
 bt (x2<x0) (
 gS (x2+1) ((
 ∃kX h_:Int,kX=(ae .u64 (2*x1))∧h_=(x2+1)∧cH ⟨[],[],[kX,h_],[],[],[],[]⟩∧dp ⟨[],[],[kX,h_],[],[],[],[]⟩<dp ⟨[],[],[x1,x2],[],[],[],[]⟩))) (
 al (.int .u64 x1) [])
theorem Pp(al:PT)(x0:Int)(h:zJ al x0):aq auN 61 [.int .i64 x0] [] al:=
 mtB (C:=Fn.cx) [.int .i64 (.var 0)] [] ⟨0,0,1,0,0,0,0⟩ ⟨[x0],[],[],[],[],[],[],[]⟩ Tryz.func61 (by kernel_rfl) h
def CL(al:PT):Prop:=
 ∀b0:Nat,al (.slice (some ⟨b0,0,none⟩) 80 80) [ak b0 true ([.int .u64 4794697086780616226,.int .u64 8158064640168781261,.int .u64 13096744586834688815,.int .u64 16840607885511220156,.int .u64 4131703408338449720,.int .u64 6480981068601479193,.int .u64 10538285296894168987,.int .u64 12329834152419229976,.int .u64 15566598209576043074,.int .u64 1334009975649890238,.int .u64 2608012711638119052,.int .u64 6128411473006802146,.int .u64 8268148722764581231,.int .u64 9286055187155687089,.int .u64 11230858885718282805,.int .u64 13951009754708518548,.int .u64 16472876342353939154,.int .u64 17275323862435702243,.int .u64 1135362057144423861,.int .u64 2597628984639134821,.int .u64 3308224258029322869,.int .u64 5365058923640841347,.int .u64 6679025012923562964,.int .u64 8573033837759648693,.int .u64 10970295158949994411,.int .u64 12119686244451234320,.int .u64 12683024718118986047,.int .u64 13788192230050041572,.int .u64 14330467153632333762,.int .u64 15395433587784984357,.int .u64 489312712824947311,.int .u64 1452737877330783856,.int .u64 2861767655752347644,.int .u64 3322285676063803686,.int .u64 5560940570517711597,.int .u64 5996557281743188959,.int .u64 7280758554555802590,.int .u64 8532644243296465576,.int .u64 9350256976987008742,.int .u64 10552545826968843579,.int .u64 11727347734174303076,.int .u64 12113106623233404929,.int .u64 14000437183269869457,.int .u64 14369950271660146224,.int .u64 15101387698204529176,.int .u64 15463397548674623760,.int .u64 17586052441742319658,.int .u64 1182934255886127544,.int .u64 1847814050463011016,.int .u64 2177327727835720531,.int .u64 2830643537854262169,.int .u64 3796741975233480872,.int .u64 4115178125766777443,.int .u64 5681478168544905931,.int .u64 6601373596472566643,.int .u64 7507060721942968483,.int .u64 8399075790359081724,.int .u64 8693463985226723168,.int .u64 9568029438360202098,.int .u64 10144078919501101548,.int .u64 10430055236837252648,.int .u64 11840083180663258601,.int .u64 13761210420658862357,.int .u64 14299343276471374635,.int .u64 14566680578165727644,.int .u64 15097957966210449927,.int .u64 16922976911328602910,.int .u64 17689382322260857208,.int .u64 500013540394364858,.int .u64 748580250866718886,.int .u64 1242879168328830382,.int .u64 1977374033974150939,.int .u64 2944078676154940804,.int .u64 3659926193048069267,.int .u64 4368137639120453308,.int .u64 4836135668995329356,.int .u64 5532061633213252278,.int .u64 6448918945643986474,.int .u64 6902733635092675308,.int .u64 7801388544844847127])]
theorem Mf(al:PT)(h:CL al):aq auN 60 [] [] al:=
 yM (C:=Fn.cx) [] [] ⟨0,0,0,0,0,0,0⟩ ⟨[],[],[],[],[],[],[],[]⟩ Tryz.func60 (by kernel_rfl) h
def Fw(al:PT)(x0:Int):Prop:=
 Cl 61 [.int .i64 22] [] fun x hs _=>x= .int .u64 4194304∧hs=[]∧
 Cl 61 [.int .i64 22] [] fun x hs _=>x= .int .u64 4194304∧hs=[]∧
 Cl 61 [.int .i64 10] [] fun x hs _=>x= .int .u64 1024∧hs=[]∧
 Cl 61 [.int .i64 32] [] fun x hs _=>x= .int .u64 4294967296∧hs=[]∧
 Cl 61 [.int .i64 2] [] fun x hs _=>x= .int .u64 4∧hs=[]∧
 Cl 61 [.int .i64 30] [] fun x hs _=>x= .int .u64 1073741824∧hs=[]∧
 Cl 61 [.int .i64 32] [] fun x hs _=>x= .int .u64 4294967296∧hs=[]∧
 Cl 61 [.int .i64 13] [] fun x hs _=>x= .int .u64 8192∧hs=[]∧
 Cl 61 [.int .i64 19] [] fun x hs _=>x= .int .u64 524288∧hs=[]∧
 Cl 61 [.int .i64 32] [] fun x hs _=>x= .int .u64 4294967296∧hs=[]∧
 al (.int .u64 (ar .cz .u64 (ar .cz .u64 (ae .u64 ((ae .u64 (ar .quo .u64 x0 4))+(ar .rem .u64 (ae .u64 (x0*1073741824)) 4294967296))) (ae .u64 ((ae .u64 (ar .quo .u64 x0 8192))+(ar .rem .u64 (ae .u64 (x0*524288)) 4294967296)))) (ae .u64 ((ae .u64 (ar .quo .u64 x0 4194304))+(ar .rem .u64 (ae .u64 (x0*1024)) 4294967296))))) []
theorem Pq(al:PT)(x0:Int)(h:Fw al x0):aq auN 64 [.int .i64 0,.int .u64 x0,.int .i64 32] [] al:=
 yM (C:=Fn.cx) [.int .i64 (.lit 0),.int .u64 (.var 0),.int .i64 (.lit 32)] [] ⟨0,0,1,0,0,0,0⟩ ⟨[x0],[],[],[],[],[],[],[]⟩ Tryz.func64 (by kernel_rfl) h
def Fx(al:PT)(x0:Int):Prop:=
 Cl 61 [.int .i64 25] [] fun x hs _=>x= .int .u64 33554432∧hs=[]∧
 Cl 61 [.int .i64 25] [] fun x hs _=>x= .int .u64 33554432∧hs=[]∧
 Cl 61 [.int .i64 7] [] fun x hs _=>x= .int .u64 128∧hs=[]∧
 Cl 61 [.int .i64 32] [] fun x hs _=>x= .int .u64 4294967296∧hs=[]∧
 Cl 61 [.int .i64 6] [] fun x hs _=>x= .int .u64 64∧hs=[]∧
 Cl 61 [.int .i64 26] [] fun x hs _=>x= .int .u64 67108864∧hs=[]∧
 Cl 61 [.int .i64 32] [] fun x hs _=>x= .int .u64 4294967296∧hs=[]∧
 Cl 61 [.int .i64 11] [] fun x hs _=>x= .int .u64 2048∧hs=[]∧
 Cl 61 [.int .i64 21] [] fun x hs _=>x= .int .u64 2097152∧hs=[]∧
 Cl 61 [.int .i64 32] [] fun x hs _=>x= .int .u64 4294967296∧hs=[]∧
 al (.int .u64 (ar .cz .u64 (ar .cz .u64 (ae .u64 ((ae .u64 (ar .quo .u64 x0 64))+(ar .rem .u64 (ae .u64 (x0*67108864)) 4294967296))) (ae .u64 ((ae .u64 (ar .quo .u64 x0 2048))+(ar .rem .u64 (ae .u64 (x0*2097152)) 4294967296)))) (ae .u64 ((ae .u64 (ar .quo .u64 x0 33554432))+(ar .rem .u64 (ae .u64 (x0*128)) 4294967296))))) []
theorem Pr(al:PT)(x0:Int)(h:Fx al x0):aq auN 64 [.int .i64 1,.int .u64 x0,.int .i64 32] [] al:=
 yM (C:=Fn.cx) [.int .i64 (.lit 1),.int .u64 (.var 0),.int .i64 (.lit 32)] [] ⟨0,0,1,0,0,0,0⟩ ⟨[x0],[],[],[],[],[],[],[]⟩ Tryz.func64 (by kernel_rfl) h
def Fy(al:PT)(x0:Int):Prop:=
 Cl 61 [.int .i64 3] [] fun x hs _=>x= .int .u64 8∧hs=[]∧
 Cl 61 [.int .i64 7] [] fun x hs _=>x= .int .u64 128∧hs=[]∧
 Cl 61 [.int .i64 25] [] fun x hs _=>x= .int .u64 33554432∧hs=[]∧
 Cl 61 [.int .i64 32] [] fun x hs _=>x= .int .u64 4294967296∧hs=[]∧
 Cl 61 [.int .i64 18] [] fun x hs _=>x= .int .u64 262144∧hs=[]∧
 Cl 61 [.int .i64 14] [] fun x hs _=>x= .int .u64 16384∧hs=[]∧
 Cl 61 [.int .i64 32] [] fun x hs _=>x= .int .u64 4294967296∧hs=[]∧
 al (.int .u64 (ar .cz .u64 (ar .cz .u64 (ae .u64 ((ae .u64 (ar .quo .u64 x0 128))+(ar .rem .u64 (ae .u64 (x0*33554432)) 4294967296))) (ae .u64 ((ae .u64 (ar .quo .u64 x0 262144))+(ar .rem .u64 (ae .u64 (x0*16384)) 4294967296)))) (ae .u64 (ar .quo .u64 x0 8)))) []
theorem Ps(al:PT)(x0:Int)(h:Fy al x0):aq auN 64 [.int .i64 2,.int .u64 x0,.int .i64 32] [] al:=
 yM (C:=Fn.cx) [.int .i64 (.lit 2),.int .u64 (.var 0),.int .i64 (.lit 32)] [] ⟨0,0,1,0,0,0,0⟩ ⟨[x0],[],[],[],[],[],[],[]⟩ Tryz.func64 (by kernel_rfl) h
def Fz(al:PT)(x0:Int):Prop:=
 Cl 61 [.int .i64 10] [] fun x hs _=>x= .int .u64 1024∧hs=[]∧
 Cl 61 [.int .i64 17] [] fun x hs _=>x= .int .u64 131072∧hs=[]∧
 Cl 61 [.int .i64 15] [] fun x hs _=>x= .int .u64 32768∧hs=[]∧
 Cl 61 [.int .i64 32] [] fun x hs _=>x= .int .u64 4294967296∧hs=[]∧
 Cl 61 [.int .i64 19] [] fun x hs _=>x= .int .u64 524288∧hs=[]∧
 Cl 61 [.int .i64 13] [] fun x hs _=>x= .int .u64 8192∧hs=[]∧
 Cl 61 [.int .i64 32] [] fun x hs _=>x= .int .u64 4294967296∧hs=[]∧
 al (.int .u64 (ar .cz .u64 (ar .cz .u64 (ae .u64 ((ae .u64 (ar .quo .u64 x0 131072))+(ar .rem .u64 (ae .u64 (x0*32768)) 4294967296))) (ae .u64 ((ae .u64 (ar .quo .u64 x0 524288))+(ar .rem .u64 (ae .u64 (x0*8192)) 4294967296)))) (ae .u64 (ar .quo .u64 x0 1024)))) []
theorem Pt(al:PT)(x0:Int)(h:Fz al x0):aq auN 64 [.int .i64 3,.int .u64 x0,.int .i64 32] [] al:=
 yM (C:=Fn.cx) [.int .i64 (.lit 3),.int .u64 (.var 0),.int .i64 (.lit 32)] [] ⟨0,0,1,0,0,0,0⟩ ⟨[x0],[],[],[],[],[],[],[]⟩ Tryz.func64 (by kernel_rfl) h
def FA(al:PT)(x0 x1:Int)(A0:Nat→Int)(v0:V1):Prop:=
 Cl 61 [.int .i64 32] [] fun x hs _=>x= .int .u64 4294967296∧hs=[]∧
 Cl 64 [.int .i64 1,.int .u64 (A0 4),.int .i64 32] [] fun x hs _=> ∃x2:Int,x= .int .u64 x2∧hs=[]∧
 Cl 61 [.int .i64 32] [] fun x hs _=>x= .int .u64 4294967296∧hs=[]∧
 Cl 64 [.int .i64 0,.int .u64 (A0 0),.int .i64 32] [] fun x hs _=> ∃x3:Int,x= .int .u64 x3∧hs=[]∧
 Cl 61 [.int .i64 32] [] fun x hs _=>x= .int .u64 4294967296∧hs=[]∧
 Cl 61 [.int .i64 32] [] fun x hs _=>x= .int .u64 4294967296∧hs=[]∧
 Cl 61 [.int .i64 32] [] fun x hs _=>x= .int .u64 4294967296∧hs=[]∧
 ∀b0:Nat,al (.slice (some ⟨b0,0,none⟩) 8 8) [aB true 24 1 v0.v 8 (aM 8 [ay .u64 1 A0]),ak b0 true ([.int .u64 (ar .rem .u64 (ae .u64 ((ar .rem .u64 (ae .u64 ((ae .u64 ((ae .u64 ((ae .u64 ((A0 7)+x2))+(ar .cz .u64 (ar .gp .u64 (A0 4) (A0 5)) (ar .gp .u64 (ae .u64 (4294967295 - (A0 4))) (A0 6)))))+x0))+x1)) 4294967296)+(ar .rem .u64 (ae .u64 (x3+(ar .cz .u64 (ar .cz .u64 (ar .gp .u64 (A0 0) (A0 1)) (ar .gp .u64 (A0 0) (A0 2))) (ar .gp .u64 (A0 1) (A0 2))))) 4294967296))) 4294967296),.int .u64 (A0 0),.int .u64 (A0 1),.int .u64 (A0 2),.int .u64 (ar .rem .u64 (ae .u64 ((A0 3)+(ar .rem .u64 (ae .u64 ((ae .u64 ((ae .u64 ((ae .u64 ((A0 7)+x2))+(ar .cz .u64 (ar .gp .u64 (A0 4) (A0 5)) (ar .gp .u64 (ae .u64 (4294967295 - (A0 4))) (A0 6)))))+x0))+x1)) 4294967296))) 4294967296),.int .u64 (A0 4),.int .u64 (A0 5),.int .u64 (A0 6)])]
theorem Pu(al:PT)(x0 x1:Int)(A0:Nat→Int)(v0:V1)(h:FA al x0 x1 A0 v0):aq auN 65 [v0.v,.int .u64 x0,.int .u64 x1,.int .i64 32] [aB true 24 1 v0.v 8 (aM 8 [ay .u64 1 A0])] al:=
 yM (C:=Fn.cx) [.vv 0,.int .u64 (.var 0),.int .u64 (.var 1),.int .i64 (.lit 32)] [.cC true 0 24 1 (.lit 8) [⟨.int .u64,1,.cU 0⟩]] ⟨0,1,2,1,0,0,0⟩ ⟨[x0,x1],[A0],[],[],[v0],[],[],[]⟩ Tryz.func65 (by kernel_rfl) h
def zK(al:PT)(x0:Int)(A0:Nat→Int)(_:V1):Prop:=
 ∀_:V1,ax (0≤x0) (
 ax (0≤x0) (
 lp x0 (
 ∀(_:V1) (b0:Nat),lp ((x0+1)*1) (
 ∀v3:V1,∃(cH:Ext→Prop) (dp:Ext→Nat),(∃(v4:V1) (x1:Int) (A1:Nat→Int),v4=v3∧v4=v3∧x1=(x0+1)∧(∀j,j<(ag x1)→A1 j=(aw A0 (ag x0) 128) j)∧cH ⟨[],[v4],[x1],[A1],[],[],[]⟩)∧
 ∀(v4:V1) (x1:Int) (A1:Nat→Int),cH ⟨[],[v4],[x1],[A1],[],[],[]⟩→
 ax (0≤x1) (
 bt (¬((ar .rem .i64 x1 64)=56)) (
 ∀_:Nat,lp ((x1+1)*1) (
 ∀v5:V1,∃(pR:V1) (kX:Int) (Pv:Nat→Int),pR=v5∧pR=v5∧kX=(x1+1)∧(∀j,j<(ag kX)→Pv j=(aw A1 (ag x1) 0) j)∧cH ⟨[],[pR],[kX],[Pv],[],[],[]⟩∧dp ⟨[],[pR],[kX],[Pv],[],[],[]⟩<dp ⟨[],[v4],[x1],[A1],[],[],[]⟩)) (
 ∀v5:V1,ax (0≤x0) (
 lp (x1+8) (
 ∀v6:V1,al (v6.v) [bo v6 (x1+8) (bX A1 (ag x1) 8 (aw (aw (aw (aw (aw (aw (aw (aw (fun _=>0) 7 (ae .u8 (ar .rem .u64 (ae .u64 (8*(ae .u64 x0))) 256))) 6 (ae .u8 (ar .rem .u64 (ae .u64 (ar .quo .u64 (ae .u64 (8*(ae .u64 x0))) 256)) 256))) 5 (ae .u8 (ar .rem .u64 (ae .u64 (ar .quo .u64 (ae .u64 (ar .quo .u64 (ae .u64 (8*(ae .u64 x0))) 256)) 256)) 256))) 4 (ae .u8 (ar .rem .u64 (ae .u64 (ar .quo .u64 (ae .u64 (ar .quo .u64 (ae .u64 (ar .quo .u64 (ae .u64 (8*(ae .u64 x0))) 256)) 256)) 256)) 256))) 3 (ae .u8 (ar .rem .u64 (ae .u64 (ar .quo .u64 (ae .u64 (ar .quo .u64 (ae .u64 (ar .quo .u64 (ae .u64 (ar .quo .u64 (ae .u64 (8*(ae .u64 x0))) 256)) 256)) 256)) 256)) 256))) 2 (ae .u8 (ar .rem .u64 (ae .u64 (ar .quo .u64 (ae .u64 (ar .quo .u64 (ae .u64 (ar .quo .u64 (ae .u64 (ar .quo .u64 (ae .u64 (ar .quo .u64 (ae .u64 (8*(ae .u64 x0))) 256)) 256)) 256)) 256)) 256)) 256))) 1 (ae .u8 (ar .rem .u64 (ae .u64 (ar .quo .u64 (ae .u64 (ar .quo .u64 (ae .u64 (ar .quo .u64 (ae .u64 (ar .quo .u64 (ae .u64 (ar .quo .u64 (ae .u64 (ar .quo .u64 (ae .u64 (8*(ae .u64 x0))) 256)) 256)) 256)) 256)) 256)) 256)) 256))) 0 (ae .u8 (ar .rem .u64 (ae .u64 (ar .quo .u64 (ae .u64 (ar .quo .u64 (ae .u64 (ar .quo .u64 (ae .u64 (ar .quo .u64 (ae .u64 (ar .quo .u64 (ae .u64 (ar .quo .u64 (ae .u64 (ar .quo .u64 (ae .u64 (8*(ae .u64 x0))) 256)) 256)) 256)) 256)) 256)) 256)) 256)) 256)))),ak b0 true ([.int .u8 128]),bn true v5 8 (aw (aw (aw (aw (aw (aw (aw (aw (fun _=>0) 7 (ae .u8 (ar .rem .u64 (ae .u64 (8*(ae .u64 x0))) 256))) 6 (ae .u8 (ar .rem .u64 (ae .u64 (ar .quo .u64 (ae .u64 (8*(ae .u64 x0))) 256)) 256))) 5 (ae .u8 (ar .rem .u64 (ae .u64 (ar .quo .u64 (ae .u64 (ar .quo .u64 (ae .u64 (8*(ae .u64 x0))) 256)) 256)) 256))) 4 (ae .u8 (ar .rem .u64 (ae .u64 (ar .quo .u64 (ae .u64 (ar .quo .u64 (ae .u64 (ar .quo .u64 (ae .u64 (8*(ae .u64 x0))) 256)) 256)) 256)) 256))) 3 (ae .u8 (ar .rem .u64 (ae .u64 (ar .quo .u64 (ae .u64 (ar .quo .u64 (ae .u64 (ar .quo .u64 (ae .u64 (ar .quo .u64 (ae .u64 (8*(ae .u64 x0))) 256)) 256)) 256)) 256)) 256))) 2 (ae .u8 (ar .rem .u64 (ae .u64 (ar .quo .u64 (ae .u64 (ar .quo .u64 (ae .u64 (ar .quo .u64 (ae .u64 (ar .quo .u64 (ae .u64 (ar .quo .u64 (ae .u64 (8*(ae .u64 x0))) 256)) 256)) 256)) 256)) 256)) 256))) 1 (ae .u8 (ar .rem .u64 (ae .u64 (ar .quo .u64 (ae .u64 (ar .quo .u64 (ae .u64 (ar .quo .u64 (ae .u64 (ar .quo .u64 (ae .u64 (ar .quo .u64 (ae .u64 (ar .quo .u64 (ae .u64 (8*(ae .u64 x0))) 256)) 256)) 256)) 256)) 256)) 256)) 256))) 0 (ae .u8 (ar .rem .u64 (ae .u64 (ar .quo .u64 (ae .u64 (ar .quo .u64 (ae .u64 (ar .quo .u64 (ae .u64 (ar .quo .u64 (ae .u64 (ar .quo .u64 (ae .u64 (ar .quo .u64 (ae .u64 (ar .quo .u64 (ae .u64 (8*(ae .u64 x0))) 256)) 256)) 256)) 256)) 256)) 256)) 256)) 256)))]))))))))
theorem Iw(al:PT)(x0:Int)(A0:Nat→Int)(v0:V1)(h:zK al x0 A0 v0):aq auN 62 [v0.v,.int .i64 32] [bi v0 x0 A0] al:=
 mtE (C:=Fn.cx) [.vv 0,.int .i64 (.lit 32)] [.cC false 0 5 1 (.var 0) [⟨.int .u8,1,.cU 0⟩]] ⟨0,1,1,1,0,0,0⟩ ⟨[x0],[A0],[],[],[v0],[],[],[]⟩ 0 3 Tryz.func62 (by kernel_rfl) h
def Kq(al:PT)(x0:Int)(A0:Nat→Int)(v0:V1):Prop:=
 ∀_:Nat,Cl 60 [] [] fun x hs _=> ∃(v1:V1) (A1:Nat→Int),x=v1.v∧hs=[aB true 24 1 v1.v 80 (aM 80 [ay .u64 1 A1])]∧
 Cl 61 [.int .i64 32] [] fun x hs _=>x= .int .u64 4294967296∧hs=[]∧
 Cl 62 [v0.v,.int .i64 32] [bi v0 x0 A0] fun x hs l=> ∃(v2:V1) (x1:Int) (A2:Nat→Int),x=v2.v∧hs=l++[bo v2 x1 A2]∧
 ∃(cH:Ext→Prop) (dp:Ext→Nat),(∃x2 x3 x4 x5 x6 x7 x8 x9 bE:Int,bE=0∧x2=1779033703∧x3=3144134277∧x4=1013904242∧x5=2773480762∧x6=1359893119∧x7=2600822924∧x8=528734635∧x9=1541459225∧cH ⟨[],[],[x2,x3,x4,x5,x6,x7,x8,x9,bE],[],[],[],[]⟩)∧
 ∀x2 x3 x4 x5 x6 x7 x8 x9 bE:Int,cH ⟨[],[],[x2,x3,x4,x5,x6,x7,x8,x9,bE],[],[],[],[]⟩→
 ax (0≤x1) (
 bt (bE<x1) (
 ∃(tP:Ext→Prop) (zL:Ext→Nat),(∃(v4:V1) (bO:Int) (A3:Nat→Int),bO=0∧v4=(⟨.slice none 0 0,rfl⟩:V1)∧v4=(⟨.slice none 0 0,rfl⟩:V1)∧bO=0∧(∀j,j<(ag bO)→A3 j=(fun _=>0) j)∧tP ⟨[],[v4],[bO],[A3],[],[],[]⟩)∧
 ∀(v4:V1) (bO:Int) (A3:Nat→Int),tP ⟨[],[v4],[bO],[A3],[],[],[]⟩→
 bt (bO<16) (
 gS (bO*32) ((
 gS (bE+(ae .i64 (ar .quo .i64 (bO*32) 8))) ((
 ax (0≤(bE+(ae .i64 (ar .quo .i64 (bO*32) 8)))) (
 ax ((bE+(ae .i64 (ar .quo .i64 (bO*32) 8)))<x1) (
 gS ((bE+(ae .i64 (ar .quo .i64 (bO*32) 8)))+1) ((
 ax (0≤((bE+(ae .i64 (ar .quo .i64 (bO*32) 8)))+1)) (
 ax (((bE+(ae .i64 (ar .quo .i64 (bO*32) 8)))+1)<x1) (
 gS ((bE+(ae .i64 (ar .quo .i64 (bO*32) 8)))+2) ((
 ax (0≤((bE+(ae .i64 (ar .quo .i64 (bO*32) 8)))+2)) (
 ax (((bE+(ae .i64 (ar .quo .i64 (bO*32) 8)))+2)<x1) (
 gS ((bE+(ae .i64 (ar .quo .i64 (bO*32) 8)))+3) ((
 ax (0≤((bE+(ae .i64 (ar .quo .i64 (bO*32) 8)))+3)) (
 ax (((bE+(ae .i64 (ar .quo .i64 (bO*32) 8)))+3)<x1) (
 ∀_:Nat,ax (0≤bO) (
 lp ((bO+1)*8) (
 ∀v5:V1,gS (bO+1) ((
 ∃(pR:V1) (qU:Int) (rm:Nat→Int),qU=(bO+1)∧pR=v5∧pR=v5∧qU=(bO+1)∧(∀j,j<(ag qU)→rm j=(aw A3 (ag bO) (ae .u64 ((ae .u64 (256*(ae .u64 ((ae .u64 (256*(ae .u64 ((ae .u64 (256*(ae .u64 (ae .u64 (A2 (ag (bE+(ae .i64 (ar .quo .i64 (bO*32) 8)))))))))+(ae .u64 (A2 (ag ((bE+(ae .i64 (ar .quo .i64 (bO*32) 8)))+1))))))))+(ae .u64 (A2 (ag ((bE+(ae .i64 (ar .quo .i64 (bO*32) 8)))+2))))))))+(ae .u64 (A2 (ag ((bE+(ae .i64 (ar .quo .i64 (bO*32) 8)))+3))))))) j)∧tP ⟨[],[pR],[qU],[rm],[],[],[]⟩∧zL ⟨[],[pR],[qU],[rm],[],[],[]⟩<zL ⟨[],[v4],[bO],[A3],[],[],[]⟩))))))))))))))))))))))) (
 ∃(Yv:Ext→Prop) (acn:Ext→Nat),(∃(v5:V1) (bT:Int) (A4:Nat→Int),bT=16∧v5=v4∧v5=v4∧bT=bO∧(∀j,j<(ag bT)→A4 j=A3 j)∧Yv ⟨[],[v5],[bT],[A4],[],[],[]⟩)∧
 ∀(v5:V1) (bT:Int) (A4:Nat→Int),Yv ⟨[],[v5],[bT],[A4],[],[],[]⟩→
 bt (bT<64) (
 gS (bT - 2) ((
 ax (0≤(bT - 2)) (
 ax ((bT - 2)<bT) (
 gS (bT - 7) ((
 ax (0≤(bT - 7)) (
 ax ((bT - 7)<bT) (
 gS (bT - 15) ((
 ax (0≤(bT - 15)) (
 ax ((bT - 15)<bT) (
 gS (bT - 16) ((
 ax (0≤(bT - 16)) (
 ax ((bT - 16)<bT) (
 Cl 64 [.int .i64 3,.int .u64 (A4 (ag (bT - 2))),.int .i64 32] [] fun x hs _=> ∃bL:Int,x= .int .u64 bL∧hs=[]∧
 Cl 64 [.int .i64 2,.int .u64 (A4 (ag (bT - 15))),.int .i64 32] [] fun x hs _=> ∃dR:Int,x= .int .u64 dR∧hs=[]∧
 Cl 61 [.int .i64 32] [] fun x hs _=>x= .int .u64 4294967296∧hs=[]∧
 ∀_:Nat,ax (0≤bT) (
 lp ((bT+1)*8) (
 ∀v6:V1,gS (bT+1) ((
 ∃(Kr:V1) (B7:Int) (zM:Nat→Int),B7=(bT+1)∧Kr=v6∧Kr=v6∧B7=(bT+1)∧(∀j,j<(ag B7)→zM j=(aw A4 (ag bT) (ar .rem .u64 (ae .u64 ((ae .u64 ((ae .u64 (bL+(A4 (ag (bT - 7)))))+dR))+(A4 (ag (bT - 16))))) 4294967296)) j)∧Yv ⟨[],[Kr],[B7],[zM],[],[],[]⟩∧acn ⟨[],[Kr],[B7],[zM],[],[],[]⟩<acn ⟨[],[v5],[bT],[A4],[],[],[]⟩))))))))))))))))))))) (
 ∀_ v7:V1,∃(Pw:Ext→Prop) (Xs:Ext→Nat),(∃(v8:V1) (bL:Int) (A5:Nat→Int),bL=0∧v8=v7∧v8=v7∧(∀j,j<8→A5 j=(aw (aw (aw (aw (aw (aw (aw (aw (fun _=>0) 0 x2) 1 x3) 2 x4) 3 x5) 4 x6) 5 x7) 6 x8) 7 x9) j)∧Pw ⟨[],[v8],[bL],[A5],[],[],[]⟩)∧
 ∀(v8:V1) (bL:Int) (A5:Nat→Int),Pw ⟨[],[v8],[bL],[A5],[],[],[]⟩→
 bt (bL<64) (
 ax (0≤bL) (
 ax (bL<80) (
 ax (bL<bT) (
 Cl 65 [v8.v,.int .u64 (ae .u64 (ar .quo .u64 (A1 (ag bL)) 4294967296)),.int .u64 (A4 (ag bL)),.int .i64 32] [aB true 24 1 v8.v 8 (aM 8 [ay .u64 1 A5])] fun x hs _=> ∃(v9:V1) (A6:Nat→Int),x=v9.v∧hs=[aB true 24 1 v9.v 8 (aM 8 [ay .u64 1 A6])]∧
 gS (bL+1) ((
 ∃(v8':V1) (Yw:Int) (Dx:Nat→Int),Yw=(bL+1)∧v8'=v9∧v8'=v9∧(∀j,j<8→Dx j=A6 j)∧Pw ⟨[],[v8'],[Yw],[Dx],[],[],[]⟩∧Xs ⟨[],[v8'],[Yw],[Dx],[],[],[]⟩<Xs ⟨[],[v8],[bL],[A5],[],[],[]⟩)))))) (
 Cl 61 [.int .i64 32] [] fun x hs _=>x= .int .u64 4294967296∧hs=[]∧
 Cl 61 [.int .i64 32] [] fun x hs _=>x= .int .u64 4294967296∧hs=[]∧
 Cl 61 [.int .i64 32] [] fun x hs _=>x= .int .u64 4294967296∧hs=[]∧
 Cl 61 [.int .i64 32] [] fun x hs _=>x= .int .u64 4294967296∧hs=[]∧
 Cl 61 [.int .i64 32] [] fun x hs _=>x= .int .u64 4294967296∧hs=[]∧
 Cl 61 [.int .i64 32] [] fun x hs _=>x= .int .u64 4294967296∧hs=[]∧
 Cl 61 [.int .i64 32] [] fun x hs _=>x= .int .u64 4294967296∧hs=[]∧
 Cl 61 [.int .i64 32] [] fun x hs _=>x= .int .u64 4294967296∧hs=[]∧
 gS (bE+64) ((
 ∃h_ pO wE rq tQ Px OW tR zN:Int,zN=(bE+64)∧h_=(ar .rem .u64 (ae .u64 (x2+(A5 0))) 4294967296)∧pO=(ar .rem .u64 (ae .u64 (x3+(A5 1))) 4294967296)∧wE=(ar .rem .u64 (ae .u64 (x4+(A5 2))) 4294967296)∧rq=(ar .rem .u64 (ae .u64 (x5+(A5 3))) 4294967296)∧tQ=(ar .rem .u64 (ae .u64 (x6+(A5 4))) 4294967296)∧Px=(ar .rem .u64 (ae .u64 (x7+(A5 5))) 4294967296)∧OW=(ar .rem .u64 (ae .u64 (x8+(A5 6))) 4294967296)∧tR=(ar .rem .u64 (ae .u64 (x9+(A5 7))) 4294967296)∧cH ⟨[],[],[h_,pO,wE,rq,tQ,Px,OW,tR,zN],[],[],[],[]⟩∧dp ⟨[],[],[h_,pO,wE,rq,tQ,Px,OW,tR,zN],[],[],[],[]⟩<dp ⟨[],[],[x2,x3,x4,x5,x6,x7,x8,x9,bE],[],[],[],[]⟩)))))) (
 ∃(pT:Ext→Prop) (uV:Ext→Nat),(∃(v4:V1) (bO bT:Int) (A3 A4:Nat→Int),bO=0∧v4=(⟨.slice none 0 0,rfl⟩:V1)∧(∀j,j<8→A4 j=(aw (aw (aw (aw (aw (aw (aw (aw (fun _=>0) 0 x2) 1 x3) 2 x4) 3 x5) 4 x6) 5 x7) 6 x8) 7 x9) j)∧v4=(⟨.slice none 0 0,rfl⟩:V1)∧bT=0∧(∀j,j<(ag bT)→A3 j=(fun _=>0) j)∧pT ⟨[],[v4],[bO,bT],[A3,A4],[],[],[]⟩)∧
 ∀(v4:V1) (bO bT:Int) (A3 A4:Nat→Int),pT ⟨[],[v4],[bO,bT],[A3,A4],[],[],[]⟩→
 bt (bO<8) (
 ax (0≤bO) (
 Cl 61 [.int .i64 24] [] fun x hs _=>x= .int .u64 16777216∧hs=[]∧
 ∀_:Nat,ax (0≤bT) (
 lp ((bT+1)*1) (
 ∀_:V1,Cl 61 [.int .i64 16] [] fun x hs _=>x= .int .u64 65536∧hs=[]∧
 ∀_:Nat,ax (0≤(bT+1)) (
 ax ((((bT+1)+1)*1)≤140737488355328) (
 ∀_:V1,Cl 61 [.int .i64 8] [] fun x hs _=>x= .int .u64 256∧hs=[]∧
 ∀_:Nat,ax (0≤((bT+1)+1)) (
 ax (((((bT+1)+1)+1)*1)≤140737488355328) (
 ∀_:V1,Cl 61 [.int .i64 0] [] fun x hs _=>x= .int .u64 1∧hs=[]∧
 ∀_:Nat,ax (0≤(((bT+1)+1)+1)) (
 ax ((((((bT+1)+1)+1)+1)*1)≤140737488355328) (
 ∀v8:V1,gS (bO+1) ((
 ∃(pR:V1) (qU B7:Int) (rm zM:Nat→Int),qU=(bO+1)∧pR=v8∧(∀j,j<8→zM j=A4 j)∧pR=v8∧B7=((((bT+1)+1)+1)+1)∧(∀j,j<(ag B7)→rm j=(aw (aw (aw (aw A3 (ag bT) (ae .u8 (ar .rem .u64 (ae .u64 (ar .quo .u64 (A4 (ag bO)) 16777216)) 256))) (ag (bT+1)) (ae .u8 (ar .rem .u64 (ae .u64 (ar .quo .u64 (A4 (ag bO)) 65536)) 256))) (ag ((bT+1)+1)) (ae .u8 (ar .rem .u64 (ae .u64 (ar .quo .u64 (A4 (ag bO)) 256)) 256))) (ag (((bT+1)+1)+1)) (ae .u8 (ar .rem .u64 (ae .u64 (ar .quo .u64 (A4 (ag bO)) 1)) 256))) j)∧pT ⟨[],[pR],[qU,B7],[rm,zM],[],[],[]⟩∧uV ⟨[],[pR],[qU,B7],[rm,zM],[],[],[]⟩<uV ⟨[],[v4],[bO,bT],[A3,A4],[],[],[]⟩)))))))))))) (
 al (v4.v) [bo v4 bT A3])))
theorem Uk(al:PT)(x0:Int)(A0:Nat→Int)(v0:V1)(h:Kq al x0 A0 v0):aq auN 33 [v0.v,.int .i64 32] [bi v0 x0 A0] al:=
 mtE (C:=Fn.cx) [.vv 0,.int .i64 (.lit 32)] [.cC false 0 5 1 (.var 0) [⟨.int .u8,1,.cU 0⟩]] ⟨0,1,1,1,0,0,0⟩ ⟨[x0],[A0],[],[],[v0],[],[],[]⟩ 0 1 Tryz.func33 (by kernel_rfl) h
end Go.RX.Fn
