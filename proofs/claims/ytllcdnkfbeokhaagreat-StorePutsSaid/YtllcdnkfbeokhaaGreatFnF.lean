/- Sums and MACs. -/
import Derived.Test.YtllcdnkfbeokhaaGreatM38
open Go.IntKind renaming wrap -> ae
open Go.Proofs.Tryz renaming prog -> ax8
open Int renaming toNat -> ag
namespace Go.RX.Fn
open Go.RX Go.Proofs Go.RX.Fe Go.RX.Fg Go.RX.Fi Go.RX.Fj Go.RX.Fk Go.RX.Fl Go.RX.Fm
noncomputable def cx:Ctx:={T:=TT,FT:=FT,loops:=Fn.loops,bj:=Fn.bj}
set_option maxRecDepth 100000
def Av(al:PT)(x0:Int):Prop:=
 ∃(bO:Ext->Prop) (dG:Ext->Nat),(∃x1 x2:Int,x1=1/\x2=0/\bO ⟨[],[],[x1,x2],[],[],[],[]⟩)/\
 ∀x1 x2:Int,bO ⟨[],[],[x1,x2],[],[],[],[]⟩->
 bf (x2<x0) (
 fj (x2+1) ((
 ∃jd fk:Int,jd=(ae .u64 (2*x1))/\fk=(x2+1)/\Dn bO dG ⟨[],[],[jd,fk],[],[],[],[]⟩ ⟨[],[],[x1,x2],[],[],[],[]⟩))) (
 al (.int .u64 x1) [])
theorem Qj(al:PT)(x0:Int)(h:Av al x0):ao ax8 61 [.int .i64 x0] [] al:=
 mtB (C:=Fn.cx) [.int .i64 (.var 0)] [] ⟨0,0,1,0,0,0,0⟩ ⟨[x0],[],[],[],[],[],[],[]⟩ Tryz.func61 (by kernel_rfl) h
def Dp(al:PT):Prop:=
 ∀b0:Nat,al (.slice (some ⟨b0,0,none⟩) 80 80) [ak b0 true ([.int .u64 4794697086780616226,.int .u64 8158064640168781261,.int .u64 13096744586834688815,.int .u64 16840607885511220156,.int .u64 4131703408338449720,.int .u64 6480981068601479193,.int .u64 10538285296894168987,.int .u64 12329834152419229976,.int .u64 15566598209576043074,.int .u64 1334009975649890238,.int .u64 2608012711638119052,.int .u64 6128411473006802146,.int .u64 8268148722764581231,.int .u64 9286055187155687089,.int .u64 11230858885718282805,.int .u64 13951009754708518548,.int .u64 16472876342353939154,.int .u64 17275323862435702243,.int .u64 1135362057144423861,.int .u64 2597628984639134821,.int .u64 3308224258029322869,.int .u64 5365058923640841347,.int .u64 6679025012923562964,.int .u64 8573033837759648693,.int .u64 10970295158949994411,.int .u64 12119686244451234320,.int .u64 12683024718118986047,.int .u64 13788192230050041572,.int .u64 14330467153632333762,.int .u64 15395433587784984357,.int .u64 489312712824947311,.int .u64 1452737877330783856,.int .u64 2861767655752347644,.int .u64 3322285676063803686,.int .u64 5560940570517711597,.int .u64 5996557281743188959,.int .u64 7280758554555802590,.int .u64 8532644243296465576,.int .u64 9350256976987008742,.int .u64 10552545826968843579,.int .u64 11727347734174303076,.int .u64 12113106623233404929,.int .u64 14000437183269869457,.int .u64 14369950271660146224,.int .u64 15101387698204529176,.int .u64 15463397548674623760,.int .u64 17586052441742319658,.int .u64 1182934255886127544,.int .u64 1847814050463011016,.int .u64 2177327727835720531,.int .u64 2830643537854262169,.int .u64 3796741975233480872,.int .u64 4115178125766777443,.int .u64 5681478168544905931,.int .u64 6601373596472566643,.int .u64 7507060721942968483,.int .u64 8399075790359081724,.int .u64 8693463985226723168,.int .u64 9568029438360202098,.int .u64 10144078919501101548,.int .u64 10430055236837252648,.int .u64 11840083180663258601,.int .u64 13761210420658862357,.int .u64 14299343276471374635,.int .u64 14566680578165727644,.int .u64 15097957966210449927,.int .u64 16922976911328602910,.int .u64 17689382322260857208,.int .u64 500013540394364858,.int .u64 748580250866718886,.int .u64 1242879168328830382,.int .u64 1977374033974150939,.int .u64 2944078676154940804,.int .u64 3659926193048069267,.int .u64 4368137639120453308,.int .u64 4836135668995329356,.int .u64 5532061633213252278,.int .u64 6448918945643986474,.int .u64 6902733635092675308,.int .u64 7801388544844847127])]
theorem Nh(al:PT)(h:Dp al):ao ax8 60 [] [] al:=
 vm (C:=Fn.cx) [] [] ⟨0,0,0,0,0,0,0⟩ ⟨[],[],[],[],[],[],[],[]⟩ Tryz.func60 (by kernel_rfl) h
def F1(al:PT)(x0:Int):Prop:=
 Cl 61 [.int .i64 22] [] λx hs _=>x= .int .u64 4194304/\hs=[]/\
 Cl 61 [.int .i64 22] [] λx hs _=>x= .int .u64 4194304/\hs=[]/\
 Cl 61 [.int .i64 10] [] λx hs _=>x= .int .u64 1024/\hs=[]/\
 Cl 61 [.int .i64 32] [] λx hs _=>x= .int .u64 4294967296/\hs=[]/\
 Cl 61 [.int .i64 2] [] λx hs _=>x= .int .u64 4/\hs=[]/\
 Cl 61 [.int .i64 30] [] λx hs _=>x= .int .u64 1073741824/\hs=[]/\
 Cl 61 [.int .i64 32] [] λx hs _=>x= .int .u64 4294967296/\hs=[]/\
 Cl 61 [.int .i64 13] [] λx hs _=>x= .int .u64 8192/\hs=[]/\
 Cl 61 [.int .i64 19] [] λx hs _=>x= .int .u64 524288/\hs=[]/\
 Cl 61 [.int .i64 32] [] λx hs _=>x= .int .u64 4294967296/\hs=[]/\
 al (.int .u64 (ar .cQ .u64 (ar .cQ .u64 (ae .u64 ((ae .u64 (ar .quo .u64 x0 4))+(ar .rem .u64 (ae .u64 (x0*1073741824)) 4294967296))) (ae .u64 ((ae .u64 (ar .quo .u64 x0 8192))+(ar .rem .u64 (ae .u64 (x0*524288)) 4294967296)))) (ae .u64 ((ae .u64 (ar .quo .u64 x0 4194304))+(ar .rem .u64 (ae .u64 (x0*1024)) 4294967296))))) []
theorem Qk(al:PT)(x0:Int)(h:F1 al x0):ao ax8 64 [.int .i64 0,.int .u64 x0,.int .i64 32] [] al:=
 vm (C:=Fn.cx) [.int .i64 (.lit 0),.int .u64 (.var 0),.int .i64 (.lit 32)] [] ⟨0,0,1,0,0,0,0⟩ ⟨[x0],[],[],[],[],[],[],[]⟩ Tryz.func64 (by kernel_rfl) h
def F2(al:PT)(x0:Int):Prop:=
 Cl 61 [.int .i64 25] [] λx hs _=>x= .int .u64 33554432/\hs=[]/\
 Cl 61 [.int .i64 25] [] λx hs _=>x= .int .u64 33554432/\hs=[]/\
 Cl 61 [.int .i64 7] [] λx hs _=>x= .int .u64 128/\hs=[]/\
 Cl 61 [.int .i64 32] [] λx hs _=>x= .int .u64 4294967296/\hs=[]/\
 Cl 61 [.int .i64 6] [] λx hs _=>x= .int .u64 64/\hs=[]/\
 Cl 61 [.int .i64 26] [] λx hs _=>x= .int .u64 67108864/\hs=[]/\
 Cl 61 [.int .i64 32] [] λx hs _=>x= .int .u64 4294967296/\hs=[]/\
 Cl 61 [.int .i64 11] [] λx hs _=>x= .int .u64 2048/\hs=[]/\
 Cl 61 [.int .i64 21] [] λx hs _=>x= .int .u64 2097152/\hs=[]/\
 Cl 61 [.int .i64 32] [] λx hs _=>x= .int .u64 4294967296/\hs=[]/\
 al (.int .u64 (ar .cQ .u64 (ar .cQ .u64 (ae .u64 ((ae .u64 (ar .quo .u64 x0 64))+(ar .rem .u64 (ae .u64 (x0*67108864)) 4294967296))) (ae .u64 ((ae .u64 (ar .quo .u64 x0 2048))+(ar .rem .u64 (ae .u64 (x0*2097152)) 4294967296)))) (ae .u64 ((ae .u64 (ar .quo .u64 x0 33554432))+(ar .rem .u64 (ae .u64 (x0*128)) 4294967296))))) []
theorem Ql(al:PT)(x0:Int)(h:F2 al x0):ao ax8 64 [.int .i64 1,.int .u64 x0,.int .i64 32] [] al:=
 vm (C:=Fn.cx) [.int .i64 (.lit 1),.int .u64 (.var 0),.int .i64 (.lit 32)] [] ⟨0,0,1,0,0,0,0⟩ ⟨[x0],[],[],[],[],[],[],[]⟩ Tryz.func64 (by kernel_rfl) h
def F3(al:PT)(x0:Int):Prop:=
 Cl 61 [.int .i64 3] [] λx hs _=>x= .int .u64 8/\hs=[]/\
 Cl 61 [.int .i64 7] [] λx hs _=>x= .int .u64 128/\hs=[]/\
 Cl 61 [.int .i64 25] [] λx hs _=>x= .int .u64 33554432/\hs=[]/\
 Cl 61 [.int .i64 32] [] λx hs _=>x= .int .u64 4294967296/\hs=[]/\
 Cl 61 [.int .i64 18] [] λx hs _=>x= .int .u64 262144/\hs=[]/\
 Cl 61 [.int .i64 14] [] λx hs _=>x= .int .u64 16384/\hs=[]/\
 Cl 61 [.int .i64 32] [] λx hs _=>x= .int .u64 4294967296/\hs=[]/\
 al (.int .u64 (ar .cQ .u64 (ar .cQ .u64 (ae .u64 ((ae .u64 (ar .quo .u64 x0 128))+(ar .rem .u64 (ae .u64 (x0*33554432)) 4294967296))) (ae .u64 ((ae .u64 (ar .quo .u64 x0 262144))+(ar .rem .u64 (ae .u64 (x0*16384)) 4294967296)))) (ae .u64 (ar .quo .u64 x0 8)))) []
theorem Qm(al:PT)(x0:Int)(h:F3 al x0):ao ax8 64 [.int .i64 2,.int .u64 x0,.int .i64 32] [] al:=
 vm (C:=Fn.cx) [.int .i64 (.lit 2),.int .u64 (.var 0),.int .i64 (.lit 32)] [] ⟨0,0,1,0,0,0,0⟩ ⟨[x0],[],[],[],[],[],[],[]⟩ Tryz.func64 (by kernel_rfl) h
def F4(al:PT)(x0:Int):Prop:=
 Cl 61 [.int .i64 10] [] λx hs _=>x= .int .u64 1024/\hs=[]/\
 Cl 61 [.int .i64 17] [] λx hs _=>x= .int .u64 131072/\hs=[]/\
 Cl 61 [.int .i64 15] [] λx hs _=>x= .int .u64 32768/\hs=[]/\
 Cl 61 [.int .i64 32] [] λx hs _=>x= .int .u64 4294967296/\hs=[]/\
 Cl 61 [.int .i64 19] [] λx hs _=>x= .int .u64 524288/\hs=[]/\
 Cl 61 [.int .i64 13] [] λx hs _=>x= .int .u64 8192/\hs=[]/\
 Cl 61 [.int .i64 32] [] λx hs _=>x= .int .u64 4294967296/\hs=[]/\
 al (.int .u64 (ar .cQ .u64 (ar .cQ .u64 (ae .u64 ((ae .u64 (ar .quo .u64 x0 131072))+(ar .rem .u64 (ae .u64 (x0*32768)) 4294967296))) (ae .u64 ((ae .u64 (ar .quo .u64 x0 524288))+(ar .rem .u64 (ae .u64 (x0*8192)) 4294967296)))) (ae .u64 (ar .quo .u64 x0 1024)))) []
theorem Qn(al:PT)(x0:Int)(h:F4 al x0):ao ax8 64 [.int .i64 3,.int .u64 x0,.int .i64 32] [] al:=
 vm (C:=Fn.cx) [.int .i64 (.lit 3),.int .u64 (.var 0),.int .i64 (.lit 32)] [] ⟨0,0,1,0,0,0,0⟩ ⟨[x0],[],[],[],[],[],[],[]⟩ Tryz.func64 (by kernel_rfl) h
def F5(al:PT)(x0 x1:Int)(A0:Nat->Int)(v0:V1):Prop:=
 Cl 61 [.int .i64 32] [] λx hs _=>x= .int .u64 4294967296/\hs=[]/\
 Cl 64 [.int .i64 1,.int .u64 (A0 4),.int .i64 32] [] λx hs _=> ∃x2:Int,x= .int .u64 x2/\hs=[]/\
 Cl 61 [.int .i64 32] [] λx hs _=>x= .int .u64 4294967296/\hs=[]/\
 Cl 64 [.int .i64 0,.int .u64 (A0 0),.int .i64 32] [] λx hs _=> ∃x3:Int,x= .int .u64 x3/\hs=[]/\
 Cl 61 [.int .i64 32] [] λx hs _=>x= .int .u64 4294967296/\hs=[]/\
 Cl 61 [.int .i64 32] [] λx hs _=>x= .int .u64 4294967296/\hs=[]/\
 Cl 61 [.int .i64 32] [] λx hs _=>x= .int .u64 4294967296/\hs=[]/\
 ∀b0:Nat,al (.slice (some ⟨b0,0,none⟩) 8 8) [aA true 24 1 v0.v 8 (aG 8 [ax .u64 1 A0]),ak b0 true ([.int .u64 (ar .rem .u64 (ae .u64 ((ar .rem .u64 (ae .u64 ((ae .u64 ((ae .u64 ((ae .u64 ((A0 7)+x2))+(ar .cQ .u64 (ar .gO .u64 (A0 4) (A0 5)) (ar .gO .u64 (ae .u64 (4294967295 - (A0 4))) (A0 6)))))+x0))+x1)) 4294967296)+(ar .rem .u64 (ae .u64 (x3+(ar .cQ .u64 (ar .cQ .u64 (ar .gO .u64 (A0 0) (A0 1)) (ar .gO .u64 (A0 0) (A0 2))) (ar .gO .u64 (A0 1) (A0 2))))) 4294967296))) 4294967296),.int .u64 (A0 0),.int .u64 (A0 1),.int .u64 (A0 2),.int .u64 (ar .rem .u64 (ae .u64 ((A0 3)+(ar .rem .u64 (ae .u64 ((ae .u64 ((ae .u64 ((ae .u64 ((A0 7)+x2))+(ar .cQ .u64 (ar .gO .u64 (A0 4) (A0 5)) (ar .gO .u64 (ae .u64 (4294967295 - (A0 4))) (A0 6)))))+x0))+x1)) 4294967296))) 4294967296),.int .u64 (A0 4),.int .u64 (A0 5),.int .u64 (A0 6)])]
theorem Qo(al:PT)(x0 x1:Int)(A0:Nat->Int)(v0:V1)(h:F5 al x0 x1 A0 v0):ao ax8 65 [v0.v,.int .u64 x0,.int .u64 x1,.int .i64 32] [aA true 24 1 v0.v 8 (aG 8 [ax .u64 1 A0])] al:=
 vm (C:=Fn.cx) [.vv 0,.int .u64 (.var 0),.int .u64 (.var 1),.int .i64 (.lit 32)] [.cF true 0 24 1 (.lit 8) [⟨.int .u64,1,.cM 0⟩]] ⟨0,1,2,1,0,0,0⟩ ⟨[x0,x1],[A0],[],[],[v0],[],[],[]⟩ Tryz.func65 (by kernel_rfl) h
def Aw(al:PT)(x0:Int)(A0:Nat->Int)(_:V1):Prop:=
 ∀_:V1,ay (0<=x0) (
 ay (0<=x0) (
 j8 x0 (
 ∀(_:V1) (b0:Nat),j8 ((x0+1)*1) (
 ∀v3:V1,∃(bO:Ext->Prop) (dG:Ext->Nat),(∃(v4:V1) (x1:Int) (A1:Nat->Int),v4=v3/\v4=v3/\x1=(x0+1)/\cG x1 A1 (au A0 (ag x0) 128)/\bO ⟨[],[v4],[x1],[A1],[],[],[]⟩)/\
 ∀(v4:V1) (x1:Int) (A1:Nat->Int),bO ⟨[],[v4],[x1],[A1],[],[],[]⟩->
 ay (0<=x1) (
 bf (¬((ar .rem .i64 x1 64)=56)) (
 ∀_:Nat,j8 ((x1+1)*1) (
 ∀v5:V1,∃(ur:V1) (jd:Int) (YA:Nat->Int),ur=v5/\ur=v5/\jd=(x1+1)/\cG jd YA (au A1 (ag x1) 0)/\Dn bO dG ⟨[],[ur],[jd],[YA],[],[],[]⟩ ⟨[],[v4],[x1],[A1],[],[],[]⟩)) (
 ∀v5:V1,ay (0<=x0) (
 j8 (x1+8) (
 ∀v6:V1,al (v6.v) [bo v6 (x1+8) (bV A1 (ag x1) 8 (au (au (au (au (au (au (au (au (λ_=>0) 7 (ae .u8 (ar .rem .u64 (ae .u64 (8*(ae .u64 x0))) 256))) 6 (ae .u8 (ar .rem .u64 (ae .u64 (ar .quo .u64 (ae .u64 (8*(ae .u64 x0))) 256)) 256))) 5 (ae .u8 (ar .rem .u64 (ae .u64 (ar .quo .u64 (ae .u64 (ar .quo .u64 (ae .u64 (8*(ae .u64 x0))) 256)) 256)) 256))) 4 (ae .u8 (ar .rem .u64 (ae .u64 (ar .quo .u64 (ae .u64 (ar .quo .u64 (ae .u64 (ar .quo .u64 (ae .u64 (8*(ae .u64 x0))) 256)) 256)) 256)) 256))) 3 (ae .u8 (ar .rem .u64 (ae .u64 (ar .quo .u64 (ae .u64 (ar .quo .u64 (ae .u64 (ar .quo .u64 (ae .u64 (ar .quo .u64 (ae .u64 (8*(ae .u64 x0))) 256)) 256)) 256)) 256)) 256))) 2 (ae .u8 (ar .rem .u64 (ae .u64 (ar .quo .u64 (ae .u64 (ar .quo .u64 (ae .u64 (ar .quo .u64 (ae .u64 (ar .quo .u64 (ae .u64 (ar .quo .u64 (ae .u64 (8*(ae .u64 x0))) 256)) 256)) 256)) 256)) 256)) 256))) 1 (ae .u8 (ar .rem .u64 (ae .u64 (ar .quo .u64 (ae .u64 (ar .quo .u64 (ae .u64 (ar .quo .u64 (ae .u64 (ar .quo .u64 (ae .u64 (ar .quo .u64 (ae .u64 (ar .quo .u64 (ae .u64 (8*(ae .u64 x0))) 256)) 256)) 256)) 256)) 256)) 256)) 256))) 0 (ae .u8 (ar .rem .u64 (ae .u64 (ar .quo .u64 (ae .u64 (ar .quo .u64 (ae .u64 (ar .quo .u64 (ae .u64 (ar .quo .u64 (ae .u64 (ar .quo .u64 (ae .u64 (ar .quo .u64 (ae .u64 (ar .quo .u64 (ae .u64 (8*(ae .u64 x0))) 256)) 256)) 256)) 256)) 256)) 256)) 256)) 256)))),ak b0 true ([.int .u8 128]),bn true v5 8 (au (au (au (au (au (au (au (au (λ_=>0) 7 (ae .u8 (ar .rem .u64 (ae .u64 (8*(ae .u64 x0))) 256))) 6 (ae .u8 (ar .rem .u64 (ae .u64 (ar .quo .u64 (ae .u64 (8*(ae .u64 x0))) 256)) 256))) 5 (ae .u8 (ar .rem .u64 (ae .u64 (ar .quo .u64 (ae .u64 (ar .quo .u64 (ae .u64 (8*(ae .u64 x0))) 256)) 256)) 256))) 4 (ae .u8 (ar .rem .u64 (ae .u64 (ar .quo .u64 (ae .u64 (ar .quo .u64 (ae .u64 (ar .quo .u64 (ae .u64 (8*(ae .u64 x0))) 256)) 256)) 256)) 256))) 3 (ae .u8 (ar .rem .u64 (ae .u64 (ar .quo .u64 (ae .u64 (ar .quo .u64 (ae .u64 (ar .quo .u64 (ae .u64 (ar .quo .u64 (ae .u64 (8*(ae .u64 x0))) 256)) 256)) 256)) 256)) 256))) 2 (ae .u8 (ar .rem .u64 (ae .u64 (ar .quo .u64 (ae .u64 (ar .quo .u64 (ae .u64 (ar .quo .u64 (ae .u64 (ar .quo .u64 (ae .u64 (ar .quo .u64 (ae .u64 (8*(ae .u64 x0))) 256)) 256)) 256)) 256)) 256)) 256))) 1 (ae .u8 (ar .rem .u64 (ae .u64 (ar .quo .u64 (ae .u64 (ar .quo .u64 (ae .u64 (ar .quo .u64 (ae .u64 (ar .quo .u64 (ae .u64 (ar .quo .u64 (ae .u64 (ar .quo .u64 (ae .u64 (8*(ae .u64 x0))) 256)) 256)) 256)) 256)) 256)) 256)) 256))) 0 (ae .u8 (ar .rem .u64 (ae .u64 (ar .quo .u64 (ae .u64 (ar .quo .u64 (ae .u64 (ar .quo .u64 (ae .u64 (ar .quo .u64 (ae .u64 (ar .quo .u64 (ae .u64 (ar .quo .u64 (ae .u64 (ar .quo .u64 (ae .u64 (8*(ae .u64 x0))) 256)) 256)) 256)) 256)) 256)) 256)) 256)) 256)))]))))))))
theorem Jm(al:PT)(x0:Int)(A0:Nat->Int)(v0:V1)(h:Aw al x0 A0 v0):ao ax8 62 [v0.v,.int .i64 32] [bi v0 x0 A0] al:=
 mtE (C:=Fn.cx) [.vv 0,.int .i64 (.lit 32)] [.cF false 0 5 1 (.var 0) [⟨.int .u8,1,.cM 0⟩]] ⟨0,1,1,1,0,0,0⟩ ⟨[x0],[A0],[],[],[v0],[],[],[]⟩ 0 3 Tryz.func62 (by kernel_rfl) h
def Lj(al:PT)(x0:Int)(A0:Nat->Int)(v0:V1):Prop:=
 ∀_:Nat,Cl 60 [] [] λx hs _=> ∃(v1:V1) (A1:Nat->Int),x=v1.v/\hs=[aA true 24 1 v1.v 80 (aG 80 [ax .u64 1 A1])]/\
 Cl 61 [.int .i64 32] [] λx hs _=>x= .int .u64 4294967296/\hs=[]/\
 Cl 62 [v0.v,.int .i64 32] [bi v0 x0 A0] λx hs l=> ∃(v2:V1) (x1:Int) (A2:Nat->Int),x=v2.v/\hs=l++[bo v2 x1 A2]/\
 ∃(bO:Ext->Prop) (dG:Ext->Nat),(∃x2 x3 x4 x5 x6 x7 x8 x9 bA:Int,bA=0/\x2=1779033703/\x3=3144134277/\x4=1013904242/\x5=2773480762/\x6=1359893119/\x7=2600822924/\x8=528734635/\x9=1541459225/\bO ⟨[],[],[x2,x3,x4,x5,x6,x7,x8,x9,bA],[],[],[],[]⟩)/\
 ∀x2 x3 x4 x5 x6 x7 x8 x9 bA:Int,bO ⟨[],[],[x2,x3,x4,x5,x6,x7,x8,x9,bA],[],[],[],[]⟩->
 ay (0<=x1) (
 bf (bA<x1) (
 ∃(uu:Ext->Prop) (Jn:Ext->Nat),(∃(v4:V1) (bH:Int) (A3:Nat->Int),bH=0/\v4=(⟨.slice none 0 0,rfl⟩:V1)/\v4=(⟨.slice none 0 0,rfl⟩:V1)/\bH=0/\cG bH A3 (λ_=>0)/\uu ⟨[],[v4],[bH],[A3],[],[],[]⟩)/\
 ∀(v4:V1) (bH:Int) (A3:Nat->Int),uu ⟨[],[v4],[bH],[A3],[],[],[]⟩->
 bf (bH<16) (
 fj (bH*32) ((
 fj (bA+(ae .i64 (ar .quo .i64 (bH*32) 8))) ((
 ay (0<=(bA+(ae .i64 (ar .quo .i64 (bH*32) 8)))) (
 ay ((bA+(ae .i64 (ar .quo .i64 (bH*32) 8)))<x1) (
 fj ((bA+(ae .i64 (ar .quo .i64 (bH*32) 8)))+1) ((
 ay (0<=((bA+(ae .i64 (ar .quo .i64 (bH*32) 8)))+1)) (
 ay (((bA+(ae .i64 (ar .quo .i64 (bH*32) 8)))+1)<x1) (
 fj ((bA+(ae .i64 (ar .quo .i64 (bH*32) 8)))+2) ((
 ay (0<=((bA+(ae .i64 (ar .quo .i64 (bH*32) 8)))+2)) (
 ay (((bA+(ae .i64 (ar .quo .i64 (bH*32) 8)))+2)<x1) (
 fj ((bA+(ae .i64 (ar .quo .i64 (bH*32) 8)))+3) ((
 ay (0<=((bA+(ae .i64 (ar .quo .i64 (bH*32) 8)))+3)) (
 ay (((bA+(ae .i64 (ar .quo .i64 (bH*32) 8)))+3)<x1) (
 ∀_:Nat,ay (0<=bH) (
 j8 ((bH+1)*8) (
 ∀v5:V1,fj (bH+1) ((
 ∃(ur:V1) (vr:Int) (mD:Nat->Int),vr=(bH+1)/\ur=v5/\ur=v5/\vr=(bH+1)/\cG vr mD (au A3 (ag bH) (ae .u64 ((ae .u64 (256*(ae .u64 ((ae .u64 (256*(ae .u64 ((ae .u64 (256*(ae .u64 (ae .u64 (A2 (ag (bA+(ae .i64 (ar .quo .i64 (bH*32) 8)))))))))+(ae .u64 (A2 (ag ((bA+(ae .i64 (ar .quo .i64 (bH*32) 8)))+1))))))))+(ae .u64 (A2 (ag ((bA+(ae .i64 (ar .quo .i64 (bH*32) 8)))+2))))))))+(ae .u64 (A2 (ag ((bA+(ae .i64 (ar .quo .i64 (bH*32) 8)))+3)))))))/\Dn uu Jn ⟨[],[ur],[vr],[mD],[],[],[]⟩ ⟨[],[v4],[bH],[A3],[],[],[]⟩))))))))))))))))))))))) (
 ∃(Jo:Ext->Prop) (ZU:Ext->Nat),(∃(v5:V1) (bR:Int) (A4:Nat->Int),bR=16/\v5=v4/\v5=v4/\bR=bH/\cG bR A4 A3/\Jo ⟨[],[v5],[bR],[A4],[],[],[]⟩)/\
 ∀(v5:V1) (bR:Int) (A4:Nat->Int),Jo ⟨[],[v5],[bR],[A4],[],[],[]⟩->
 bf (bR<64) (
 fj (bR - 2) ((
 ay (0<=(bR - 2)) (
 ay ((bR - 2)<bR) (
 fj (bR - 7) ((
 ay (0<=(bR - 7)) (
 ay ((bR - 7)<bR) (
 fj (bR - 15) ((
 ay (0<=(bR - 15)) (
 ay ((bR - 15)<bR) (
 fj (bR - 16) ((
 ay (0<=(bR - 16)) (
 ay ((bR - 16)<bR) (
 Cl 64 [.int .i64 3,.int .u64 (A4 (ag (bR - 2))),.int .i64 32] [] λx hs _=> ∃bN:Int,x= .int .u64 bN/\hs=[]/\
 Cl 64 [.int .i64 2,.int .u64 (A4 (ag (bR - 15))),.int .i64 32] [] λx hs _=> ∃dP:Int,x= .int .u64 dP/\hs=[]/\
 Cl 61 [.int .i64 32] [] λx hs _=>x= .int .u64 4294967296/\hs=[]/\
 ∀_:Nat,ay (0<=bR) (
 j8 ((bR+1)*8) (
 ∀v6:V1,fj (bR+1) ((
 ∃(Qp:V1) (F6:Int) (Ax:Nat->Int),F6=(bR+1)/\Qp=v6/\Qp=v6/\F6=(bR+1)/\cG F6 Ax (au A4 (ag bR) (ar .rem .u64 (ae .u64 ((ae .u64 ((ae .u64 (bN+(A4 (ag (bR - 7)))))+dP))+(A4 (ag (bR - 16))))) 4294967296))/\Dn Jo ZU ⟨[],[Qp],[F6],[Ax],[],[],[]⟩ ⟨[],[v5],[bR],[A4],[],[],[]⟩))))))))))))))))))))) (
 ∀_ v7:V1,∃(Qq:Ext->Prop) (aej:Ext->Nat),(∃(v8:V1) (bN:Int) (A5:Nat->Int),bN=0/\v8=v7/\v8=v7/\(∀j,j<8->A5 j=(au (au (au (au (au (au (au (au (λ_=>0) 0 x2) 1 x3) 2 x4) 3 x5) 4 x6) 5 x7) 6 x8) 7 x9) j)/\Qq ⟨[],[v8],[bN],[A5],[],[],[]⟩)/\
 ∀(v8:V1) (bN:Int) (A5:Nat->Int),Qq ⟨[],[v8],[bN],[A5],[],[],[]⟩->
 bf (bN<64) (
 ay (0<=bN) (
 ay (bN<80) (
 ay (bN<bR) (
 Cl 65 [v8.v,.int .u64 (ae .u64 (ar .quo .u64 (A1 (ag bN)) 4294967296)),.int .u64 (A4 (ag bN)),.int .i64 32] [aA true 24 1 v8.v 8 (aG 8 [ax .u64 1 A5])] λx hs _=> ∃(v9:V1) (A6:Nat->Int),x=v9.v/\hs=[aA true 24 1 v9.v 8 (aG 8 [ax .u64 1 A6])]/\
 fj (bN+1) ((
 ∃(v8':V1) (aek:Int) (Dq:Nat->Int),aek=(bN+1)/\v8'=v9/\v8'=v9/\(∀j,j<8->Dq j=A6 j)/\Dn Qq aej ⟨[],[v8'],[aek],[Dq],[],[],[]⟩ ⟨[],[v8],[bN],[A5],[],[],[]⟩)))))) (
 Cl 61 [.int .i64 32] [] λx hs _=>x= .int .u64 4294967296/\hs=[]/\
 Cl 61 [.int .i64 32] [] λx hs _=>x= .int .u64 4294967296/\hs=[]/\
 Cl 61 [.int .i64 32] [] λx hs _=>x= .int .u64 4294967296/\hs=[]/\
 Cl 61 [.int .i64 32] [] λx hs _=>x= .int .u64 4294967296/\hs=[]/\
 Cl 61 [.int .i64 32] [] λx hs _=>x= .int .u64 4294967296/\hs=[]/\
 Cl 61 [.int .i64 32] [] λx hs _=>x= .int .u64 4294967296/\hs=[]/\
 Cl 61 [.int .i64 32] [] λx hs _=>x= .int .u64 4294967296/\hs=[]/\
 Cl 61 [.int .i64 32] [] λx hs _=>x= .int .u64 4294967296/\hs=[]/\
 fj (bA+64) ((
 ∃fk qJ xl xm zV YB PS xi F7:Int,F7=(bA+64)/\fk=(ar .rem .u64 (ae .u64 (x2+(A5 0))) 4294967296)/\qJ=(ar .rem .u64 (ae .u64 (x3+(A5 1))) 4294967296)/\xl=(ar .rem .u64 (ae .u64 (x4+(A5 2))) 4294967296)/\xm=(ar .rem .u64 (ae .u64 (x5+(A5 3))) 4294967296)/\zV=(ar .rem .u64 (ae .u64 (x6+(A5 4))) 4294967296)/\YB=(ar .rem .u64 (ae .u64 (x7+(A5 5))) 4294967296)/\PS=(ar .rem .u64 (ae .u64 (x8+(A5 6))) 4294967296)/\xi=(ar .rem .u64 (ae .u64 (x9+(A5 7))) 4294967296)/\Dn bO dG ⟨[],[],[fk,qJ,xl,xm,zV,YB,PS,xi,F7],[],[],[],[]⟩ ⟨[],[],[x2,x3,x4,x5,x6,x7,x8,x9,bA],[],[],[],[]⟩)))))) (
 ∃(mc:Ext->Prop) (xp:Ext->Nat),(∃(v4:V1) (bH bR:Int) (A3 A4:Nat->Int),bH=0/\v4=(⟨.slice none 0 0,rfl⟩:V1)/\(∀j,j<8->A4 j=(au (au (au (au (au (au (au (au (λ_=>0) 0 x2) 1 x3) 2 x4) 3 x5) 4 x6) 5 x7) 6 x8) 7 x9) j)/\v4=(⟨.slice none 0 0,rfl⟩:V1)/\bR=0/\cG bR A3 (λ_=>0)/\mc ⟨[],[v4],[bH,bR],[A3,A4],[],[],[]⟩)/\
 ∀(v4:V1) (bH bR:Int) (A3 A4:Nat->Int),mc ⟨[],[v4],[bH,bR],[A3,A4],[],[],[]⟩->
 bf (bH<8) (
 ay (0<=bH) (
 Cl 61 [.int .i64 24] [] λx hs _=>x= .int .u64 16777216/\hs=[]/\
 ∀_:Nat,ay (0<=bR) (
 j8 ((bR+1)*1) (
 ∀_:V1,Cl 61 [.int .i64 16] [] λx hs _=>x= .int .u64 65536/\hs=[]/\
 ∀_:Nat,ay (0<=(bR+1)) (
 ay ((((bR+1)+1)*1)<=140737488355328) (
 ∀_:V1,Cl 61 [.int .i64 8] [] λx hs _=>x= .int .u64 256/\hs=[]/\
 ∀_:Nat,ay (0<=((bR+1)+1)) (
 ay (((((bR+1)+1)+1)*1)<=140737488355328) (
 ∀_:V1,Cl 61 [.int .i64 0] [] λx hs _=>x= .int .u64 1/\hs=[]/\
 ∀_:Nat,ay (0<=(((bR+1)+1)+1)) (
 ay ((((((bR+1)+1)+1)+1)*1)<=140737488355328) (
 ∀v8:V1,fj (bH+1) ((
 ∃(ur:V1) (vr F6:Int) (mD Ax:Nat->Int),vr=(bH+1)/\ur=v8/\(∀j,j<8->Ax j=A4 j)/\ur=v8/\F6=((((bR+1)+1)+1)+1)/\cG F6 mD (au (au (au (au A3 (ag bR) (ae .u8 (ar .rem .u64 (ae .u64 (ar .quo .u64 (A4 (ag bH)) 16777216)) 256))) (ag (bR+1)) (ae .u8 (ar .rem .u64 (ae .u64 (ar .quo .u64 (A4 (ag bH)) 65536)) 256))) (ag ((bR+1)+1)) (ae .u8 (ar .rem .u64 (ae .u64 (ar .quo .u64 (A4 (ag bH)) 256)) 256))) (ag (((bR+1)+1)+1)) (ae .u8 (ar .rem .u64 (ae .u64 (ar .quo .u64 (A4 (ag bH)) 1)) 256)))/\Dn mc xp ⟨[],[ur],[vr,F6],[mD,Ax],[],[],[]⟩ ⟨[],[v4],[bH,bR],[A3,A4],[],[],[]⟩)))))))))))) (
 al (v4.v) [bo v4 bR A3])))
theorem VG(al:PT)(x0:Int)(A0:Nat->Int)(v0:V1)(h:Lj al x0 A0 v0):ao ax8 33 [v0.v,.int .i64 32] [bi v0 x0 A0] al:=
 mtE (C:=Fn.cx) [.vv 0,.int .i64 (.lit 32)] [.cF false 0 5 1 (.var 0) [⟨.int .u8,1,.cM 0⟩]] ⟨0,1,1,1,0,0,0⟩ ⟨[x0],[A0],[],[],[v0],[],[],[]⟩ 0 1 Tryz.func33 (by kernel_rfl) h
end Go.RX.Fn
