/- The types and functions of the seat's program. -/
import Derived.Test.YtmgbbbmdbpbeeaaGreatProg
import Derived.Test.YtmgbbbmdbpbeeaaGreatM22
open Go.Proofs.Tryz renaming prog → ae0
open Int renaming toNat → ag
open List renaming getElem?_append_left → ae1, getElem?_append_right → ae2, getElem?_eq_getElem → afA, getElem?_eq_none → afz, getElem?_eq_some_iff → aeV, mem_of_getElem? → afr
open Nat renaming lt_of_lt_of_le → ae_, not_lt → afK
open Option renaming map_eq_some_iff → aeY
open Option.some renaming injEq → aeX
namespace Go.RX
open Go.Proofs
set_option maxRecDepth 100000
def TT:List TI:=[
 ⟨3,.int .i64,1,8,[.int .i64 (.lit 0)],[]⟩,
 ⟨4,.bool,1,1,[.bool (.lit false)],[]⟩,
 ⟨5,.int .u8,1,1,[.int .u8 (.lit 0)],[]⟩,
 ⟨9,.str,1,16,[.str []],[]⟩,
 ⟨22,.int .u16,1,2,[.int .u16 (.lit 0)],[]⟩,
 ⟨23,.int .u64,1,8,[.int .u64 (.lit 0)],[]⟩,
 ⟨24,.slice 5,1,24,[.b_],[]⟩,
 ⟨25,.arr 12 5,12,12,[.cE .u8 12 (.lit 0)],[(some .u8,12)]⟩,
 ⟨27,.struct [(22,0),(23,1),(24,2),(25,3)],15,56,[.int .u16 (.lit 0),.int .u64 (.lit 0),.b_,.cE .u8 12 (.lit 0)],[]⟩,
 ⟨30,.int .i64,1,8,[.int .i64 (.lit 0)],[]⟩,
 ⟨38,.slice 59,1,24,[.b_],[]⟩,
 ⟨41,.struct [(22,0),(23,1),(3,2),(24,3)],4,48,[.int .u16 (.lit 0),.int .u64 (.lit 0),.int .i64 (.lit 0),.b_],[]⟩,
 ⟨42,.ptr 112,1,8,[.gI],[]⟩,
 ⟨45,.ptr 120,1,8,[.gI],[]⟩,
 ⟨49,.ptr 55,1,8,[.gI],[]⟩,
 ⟨50,.slice 23,1,24,[.b_],[]⟩,
 ⟨51,.slice 23,1,24,[.b_],[]⟩,
 ⟨53,.struct [(41,0),(23,4),(23,5),(4,6),(51,7),(51,8)],9,120,[.int .u16 (.lit 0),.int .u64 (.lit 0),.int .i64 (.lit 0),.b_,.int .u64 (.lit 0),.int .u64 (.lit 0),.bool (.lit false),.b_,.b_],[]⟩,
 ⟨55,.struct [(45,0),(53,1)],10,128,[.gI,.int .u16 (.lit 0),.int .u64 (.lit 0),.int .i64 (.lit 0),.b_,.int .u64 (.lit 0),.int .u64 (.lit 0),.bool (.lit false),.b_,.b_],[]⟩,
 ⟨57,.slice 24,1,24,[.b_],[]⟩,
 ⟨59,.struct [(5,0),(24,1),(24,2),(23,3),(3,4)],5,72,[.int .u8 (.lit 0),.b_,.b_,.int .u64 (.lit 0),.int .i64 (.lit 0)],[]⟩,
 ⟨67,.slice 22,1,24,[.b_],[]⟩,
 ⟨68,.map 70 3,1,8,[.qu],[]⟩,
 ⟨70,.struct [(23,0),(23,1)],2,16,[.int .u64 (.lit 0),.int .u64 (.lit 0)],[(some .u64,2)]⟩,
 ⟨74,.map 3 77,1,8,[.qu],[]⟩,
 ⟨77,.struct [],0,0,[],[]⟩,
 ⟨80,.int .u8,1,1,[.int .u8 (.lit 0)],[]⟩,
 ⟨82,.struct [(80,0),(3,1),(3,2),(3,3),(3,4)],5,40,[.int .u8 (.lit 0),.int .i64 (.lit 0),.int .i64 (.lit 0),.int .i64 (.lit 0),.int .i64 (.lit 0)],[(some .u8,1),(some .i64,4)]⟩,
 ⟨86,.func,1,8,[.lH],[]⟩,
 ⟨87,.func,1,8,[.lH],[]⟩,
 ⟨89,.struct [(86,0),(87,1)],2,16,[.lH,.lH],[]⟩,
 ⟨97,.slice 3,1,24,[.b_],[]⟩,
 ⟨104,.struct [(24,0),(9,1),(30,2)],3,48,[.b_,.str [],.int .i64 (.lit 0)],[]⟩,
 ⟨105,.slice 104,1,24,[.b_],[]⟩,
 ⟨108,.struct [(22,0),(23,1),(3,2),(23,3),(24,4)],5,56,[.int .u16 (.lit 0),.int .u64 (.lit 0),.int .i64 (.lit 0),.int .u64 (.lit 0),.b_],[]⟩,
 ⟨112,.struct [(108,0),(23,5),(4,6)],7,72,[.int .u16 (.lit 0),.int .u64 (.lit 0),.int .i64 (.lit 0),.int .u64 (.lit 0),.b_,.int .u64 (.lit 0),.bool (.lit false)],[]⟩,
 ⟨113,.arr 16 23,16,128,[.cE .u64 16 (.lit 0)],[(some .u64,16)]⟩,
 ⟨115,.struct [(4,0),(23,1),(113,2)],18,144,[.bool (.lit false),.int .u64 (.lit 0),.cE .u64 16 (.lit 0)],[(none,1),(some .u64,17)]⟩,
 ⟨117,.struct [(108,0),(115,5)],23,200,[.int .u16 (.lit 0),.int .u64 (.lit 0),.int .i64 (.lit 0),.int .u64 (.lit 0),.b_,.bool (.lit false),.int .u64 (.lit 0),.cE .u64 16 (.lit 0)],[]⟩,
 ⟨118,.arr 2 117,46,400,[.int .u16 (.lit 0),.int .u64 (.lit 0),.int .i64 (.lit 0),.int .u64 (.lit 0),.b_,.bool (.lit false),.int .u64 (.lit 0),.cE .u64 16 (.lit 0),.int .u16 (.lit 0),.int .u64 (.lit 0),.int .i64 (.lit 0),.int .u64 (.lit 0),.b_,.bool (.lit false),.int .u64 (.lit 0),.cE .u64 16 (.lit 0)],[]⟩,
 ⟨120,.struct [(118,0),(4,46)],47,408,[.int .u16 (.lit 0),.int .u64 (.lit 0),.int .i64 (.lit 0),.int .u64 (.lit 0),.b_,.bool (.lit false),.int .u64 (.lit 0),.cE .u64 16 (.lit 0),.int .u16 (.lit 0),.int .u64 (.lit 0),.int .i64 (.lit 0),.int .u64 (.lit 0),.b_,.bool (.lit false),.int .u64 (.lit 0),.cE .u64 16 (.lit 0),.bool (.lit false)],[]⟩,
 ⟨127,.func,1,8,[.lH],[]⟩,
 ⟨128,.ptr 117,1,8,[.gI],[]⟩,
 ⟨131,.arr 2 23,2,16,[.cE .u64 2 (.lit 0)],[(some .u64,2)]⟩,
 ⟨132,.int .u64,1,8,[.int .u64 (.lit 0)],[]⟩,
 ⟨135,.ptr 175,1,8,[.gI],[]⟩,
 ⟨138,.arr 16 5,16,16,[.cE .u8 16 (.lit 0)],[(some .u8,16)]⟩,
 ⟨140,.func,1,8,[.lH],[]⟩,
 ⟨146,.struct [(24,0),(24,1)],2,48,[.b_,.b_],[]⟩,
 ⟨150,.arr 2 5,2,2,[.cE .u8 2 (.lit 0)],[(some .u8,2)]⟩,
 ⟨158,.ptr 115,1,8,[.gI],[]⟩,
 ⟨166,.map 22 82,1,8,[.qu],[]⟩,
 ⟨171,.arr 256 5,256,256,[.cE .u8 256 (.lit 0)],[(some .u8,256)]⟩,
 ⟨173,.slice 177,1,24,[.b_],[]⟩,
 ⟨175,.struct [(171,0),(173,256)],257,280,[.cE .u8 256 (.lit 0),.b_],[]⟩,
 ⟨177,.arr 4 5,4,4,[.cE .u8 4 (.lit 0)],[(some .u8,4)]⟩,
 ⟨196,.arr 255 5,255,255,[.cE .u8 255 (.lit 0)],[(some .u8,255)]⟩,
 ⟨197,.arr 256 3,256,2048,[.cE .i64 256 (.lit 0)],[(some .i64,256)]⟩,
 ⟨201,.arr 32 5,32,32,[.cE .u8 32 (.lit 0)],[(some .u8,32)]⟩,
 ⟨203,.arr 64 5,64,64,[.cE .u8 64 (.lit 0)],[(some .u8,64)]⟩,
 ⟨214,.struct [(23,0),(23,1)],2,16,[.int .u64 (.lit 0),.int .u64 (.lit 0)],[(some .u64,2)]⟩,
 ⟨218,.arr 4 177,16,16,[.cE .u8 4 (.lit 0),.cE .u8 4 (.lit 0),.cE .u8 4 (.lit 0),.cE .u8 4 (.lit 0)],[(some .u8,16)]⟩,
 ⟨223,.ptr 239,1,8,[.gI],[]⟩,
 ⟨225,.int .u32,1,4,[.int .u32 (.lit 0)],[]⟩,
 ⟨226,.ptr 242,1,8,[.gI],[]⟩,
 ⟨232,.slice 225,1,24,[.b_],[]⟩,
 ⟨235,.arr 3 3,3,24,[.cE .i64 3 (.lit 0)],[(some .i64,3)]⟩,
 ⟨237,.struct [(235,0),(235,3),(235,6),(235,9)],12,96,[.cE .i64 3 (.lit 0),.cE .i64 3 (.lit 0),.cE .i64 3 (.lit 0),.cE .i64 3 (.lit 0)],[(some .i64,12)]⟩,
 ⟨239,.struct [(232,0),(232,1),(3,2),(237,3)],15,152,[.b_,.b_,.int .i64 (.lit 0),.cE .i64 3 (.lit 0),.cE .i64 3 (.lit 0),.cE .i64 3 (.lit 0),.cE .i64 3 (.lit 0)],[]⟩,
 ⟨242,.struct [(50,0),(50,1),(3,2),(237,3)],15,152,[.b_,.b_,.int .i64 (.lit 0),.cE .i64 3 (.lit 0),.cE .i64 3 (.lit 0),.cE .i64 3 (.lit 0),.cE .i64 3 (.lit 0)],[]⟩,
 ⟨251,.arr 8 225,8,32,[.cE .u32 8 (.lit 0)],[(some .u32,8)]⟩,
 ⟨253,.arr 8 23,8,64,[.cE .u64 8 (.lit 0)],[(some .u64,8)]⟩]
theorem FE:bG ae0 TT=true:=by kernel_rfl
noncomputable def FT:List (Nat×Func):=[(2,Tryz.f2),(3,Tryz.f3),(4,Tryz.f4),(5,Tryz.f5),(6,Tryz.f6),(7,Tryz.f7),(8,Tryz.f8),(9,Tryz.f9),(10,Tryz.f10),(11,Tryz.f11),(12,Tryz.f12),(13,Tryz.f13),(14,Tryz.f14),(15,Tryz.f15),(16,Tryz.f16),(17,Tryz.f17),(18,Tryz.f18),(19,Tryz.f19),(20,Tryz.f20),(21,Tryz.f21),(22,Tryz.f22),(23,Tryz.f23),(24,Tryz.f24),(25,Tryz.f25),(26,Tryz.f26),(27,Tryz.f27),(28,Tryz.f28),(29,Tryz.f29),(30,Tryz.f30),(31,Tryz.f31),(32,Tryz.f32),(33,Tryz.f33),(34,Tryz.f34),(35,Tryz.f35),(36,Tryz.f36),(37,Tryz.f37),(38,Tryz.f38),(39,Tryz.f39),(40,Tryz.f40),(41,Tryz.f41),(42,Tryz.f42),(43,Tryz.f43),(44,Tryz.f44),(45,Tryz.f45),(46,Tryz.f46),(47,Tryz.f47),(48,Tryz.f48),(49,Tryz.f49),(50,Tryz.f50),(51,Tryz.f51),(52,Tryz.f52),(53,Tryz.f53),(54,Tryz.f54),(55,Tryz.f55),(56,Tryz.f56),(57,Tryz.f57),(58,Tryz.f58),(59,Tryz.f59),(60,Tryz.f60),(61,Tryz.f61),(62,Tryz.f62),(63,Tryz.f63),(64,Tryz.f64),(65,Tryz.f65),(66,Tryz.f66),(67,Tryz.f67),(68,Tryz.f68),(69,Tryz.f69),(70,Tryz.f70),(71,Tryz.f71),(72,Tryz.f72),(73,Tryz.f73),(74,Tryz.f74),(75,Tryz.f75),(76,Tryz.f76),(77,Tryz.f77),(78,Tryz.f78),(79,Tryz.f79),(80,Tryz.f80),(81,Tryz.f81),(82,Tryz.f82),(83,Tryz.f83),(84,Tryz.f84),(85,Tryz.f85),(86,Tryz.f86),(87,Tryz.f87),(88,Tryz.f88),(89,Tryz.f89),(90,Tryz.f90),(91,Tryz.f91),(92,Tryz.f92),(93,Tryz.f93),(94,Tryz.f94),(95,Tryz.f95),(96,Tryz.f96),(97,Tryz.f97),(98,Tryz.f98),(99,Tryz.f99),(100,Tryz.f100),(101,Tryz.f101),(102,Tryz.f102),(103,Tryz.f103),(104,Tryz.f104),(105,Tryz.f105),(106,Tryz.f106),(107,Tryz.f107),(108,Tryz.f108),(109,Tryz.f109),(110,Tryz.f110),(111,Tryz.f111),(112,Tryz.f112),(113,Tryz.f113),(114,Tryz.f114),(115,Tryz.f115),(116,Tryz.f116),(117,Tryz.f117),(118,Tryz.f118),(119,Tryz.f119),(120,Tryz.f120),(121,Tryz.f121),(122,Tryz.f122),(123,Tryz.f123),(124,Tryz.f124),(125,Tryz.f125),(126,Tryz.f126),(127,Tryz.f127),(128,Tryz.f128),(129,Tryz.f129),(130,Tryz.f130),(131,Tryz.f131),(132,Tryz.f132),(133,Tryz.f133),(134,Tryz.f134),(135,Tryz.f135),(136,Tryz.f136),(137,Tryz.f137),(138,Tryz.f138),(139,Tryz.f139),(140,Tryz.f140),(141,Tryz.f141),(142,Tryz.f142),(143,Tryz.f143),(144,Tryz.f144),(145,Tryz.f145),(146,Tryz.f146),(147,Tryz.f147),(148,Tryz.f148),(149,Tryz.f149),(150,Tryz.f150),(151,Tryz.f151),(152,Tryz.f152),(153,Tryz.f153),(154,Tryz.f154),(155,Tryz.f155),(156,Tryz.f156),(157,Tryz.f157),(158,Tryz.f158),(159,Tryz.f159),(160,Tryz.f160),(161,Tryz.f161),(162,Tryz.f162),(163,Tryz.f163),(164,Tryz.f164),(165,Tryz.f165),(166,Tryz.f166),(167,Tryz.f167),(168,Tryz.f168),(169,Tryz.f169),(170,Tryz.f170),(171,Tryz.f171)]
theorem qz:aX
 ae0 FT:=
 aX.cons Tryz.func2 (by kernel_rfl) <|
 aX.cons Tryz.func3 (by kernel_rfl) <|
 aX.cons Tryz.func4 (by kernel_rfl) <|
 aX.cons Tryz.func5 (by kernel_rfl) <|
 aX.cons Tryz.func6 (by kernel_rfl) <|
 aX.cons Tryz.func7 (by kernel_rfl) <|
 aX.cons Tryz.func8 (by kernel_rfl) <|
 aX.cons Tryz.func9 (by kernel_rfl) <|
 aX.cons Tryz.func10 (by kernel_rfl) <|
 aX.cons Tryz.func11 (by kernel_rfl) <|
 aX.cons Tryz.func12 (by kernel_rfl) <|
 aX.cons Tryz.func13 (by kernel_rfl) <|
 aX.cons Tryz.func14 (by kernel_rfl) <|
 aX.cons Tryz.func15 (by kernel_rfl) <|
 aX.cons Tryz.func16 (by kernel_rfl) <|
 aX.cons Tryz.func17 (by kernel_rfl) <|
 aX.cons Tryz.func18 (by kernel_rfl) <|
 aX.cons Tryz.func19 (by kernel_rfl) <|
 aX.cons Tryz.func20 (by kernel_rfl) <|
 aX.cons Tryz.func21 (by kernel_rfl) <|
 aX.cons Tryz.func22 (by kernel_rfl) <|
 aX.cons Tryz.func23 (by kernel_rfl) <|
 aX.cons Tryz.func24 (by kernel_rfl) <|
 aX.cons Tryz.func25 (by kernel_rfl) <|
 aX.cons Tryz.func26 (by kernel_rfl) <|
 aX.cons Tryz.func27 (by kernel_rfl) <|
 aX.cons Tryz.func28 (by kernel_rfl) <|
 aX.cons Tryz.func29 (by kernel_rfl) <|
 aX.cons Tryz.func30 (by kernel_rfl) <|
 aX.cons Tryz.func31 (by kernel_rfl) <|
 aX.cons Tryz.func32 (by kernel_rfl) <|
 aX.cons Tryz.func33 (by kernel_rfl) <|
 aX.cons Tryz.func34 (by kernel_rfl) <|
 aX.cons Tryz.func35 (by kernel_rfl) <|
 aX.cons Tryz.func36 (by kernel_rfl) <|
 aX.cons Tryz.func37 (by kernel_rfl) <|
 aX.cons Tryz.func38 (by kernel_rfl) <|
 aX.cons Tryz.func39 (by kernel_rfl) <|
 aX.cons Tryz.func40 (by kernel_rfl) <|
 aX.cons Tryz.func41 (by kernel_rfl) <|
 aX.cons Tryz.func42 (by kernel_rfl) <|
 aX.cons Tryz.func43 (by kernel_rfl) <|
 aX.cons Tryz.func44 (by kernel_rfl) <|
 aX.cons Tryz.func45 (by kernel_rfl) <|
 aX.cons Tryz.func46 (by kernel_rfl) <|
 aX.cons Tryz.func47 (by kernel_rfl) <|
 aX.cons Tryz.func48 (by kernel_rfl) <|
 aX.cons Tryz.func49 (by kernel_rfl) <|
 aX.cons Tryz.func50 (by kernel_rfl) <|
 aX.cons Tryz.func51 (by kernel_rfl) <|
 aX.cons Tryz.func52 (by kernel_rfl) <|
 aX.cons Tryz.func53 (by kernel_rfl) <|
 aX.cons Tryz.func54 (by kernel_rfl) <|
 aX.cons Tryz.func55 (by kernel_rfl) <|
 aX.cons Tryz.func56 (by kernel_rfl) <|
 aX.cons Tryz.func57 (by kernel_rfl) <|
 aX.cons Tryz.func58 (by kernel_rfl) <|
 aX.cons Tryz.func59 (by kernel_rfl) <|
 aX.cons Tryz.func60 (by kernel_rfl) <|
 aX.cons Tryz.func61 (by kernel_rfl) <|
 aX.cons Tryz.func62 (by kernel_rfl) <|
 aX.cons Tryz.func63 (by kernel_rfl) <|
 aX.cons Tryz.func64 (by kernel_rfl) <|
 aX.cons Tryz.func65 (by kernel_rfl) <|
 aX.cons Tryz.func66 (by kernel_rfl) <|
 aX.cons Tryz.func67 (by kernel_rfl) <|
 aX.cons Tryz.func68 (by kernel_rfl) <|
 aX.cons Tryz.func69 (by kernel_rfl) <|
 aX.cons Tryz.func70 (by kernel_rfl) <|
 aX.cons Tryz.func71 (by kernel_rfl) <|
 aX.cons Tryz.func72 (by kernel_rfl) <|
 aX.cons Tryz.func73 (by kernel_rfl) <|
 aX.cons Tryz.func74 (by kernel_rfl) <|
 aX.cons Tryz.func75 (by kernel_rfl) <|
 aX.cons Tryz.func76 (by kernel_rfl) <|
 aX.cons Tryz.func77 (by kernel_rfl) <|
 aX.cons Tryz.func78 (by kernel_rfl) <|
 aX.cons Tryz.func79 (by kernel_rfl) <|
 aX.cons Tryz.func80 (by kernel_rfl) <|
 aX.cons Tryz.func81 (by kernel_rfl) <|
 aX.cons Tryz.func82 (by kernel_rfl) <|
 aX.cons Tryz.func83 (by kernel_rfl) <|
 aX.cons Tryz.func84 (by kernel_rfl) <|
 aX.cons Tryz.func85 (by kernel_rfl) <|
 aX.cons Tryz.func86 (by kernel_rfl) <|
 aX.cons Tryz.func87 (by kernel_rfl) <|
 aX.cons Tryz.func88 (by kernel_rfl) <|
 aX.cons Tryz.func89 (by kernel_rfl) <|
 aX.cons Tryz.func90 (by kernel_rfl) <|
 aX.cons Tryz.func91 (by kernel_rfl) <|
 aX.cons Tryz.func92 (by kernel_rfl) <|
 aX.cons Tryz.func93 (by kernel_rfl) <|
 aX.cons Tryz.func94 (by kernel_rfl) <|
 aX.cons Tryz.func95 (by kernel_rfl) <|
 aX.cons Tryz.func96 (by kernel_rfl) <|
 aX.cons Tryz.func97 (by kernel_rfl) <|
 aX.cons Tryz.func98 (by kernel_rfl) <|
 aX.cons Tryz.func99 (by kernel_rfl) <|
 aX.cons Tryz.func100 (by kernel_rfl) <|
 aX.cons Tryz.func101 (by kernel_rfl) <|
 aX.cons Tryz.func102 (by kernel_rfl) <|
 aX.cons Tryz.func103 (by kernel_rfl) <|
 aX.cons Tryz.func104 (by kernel_rfl) <|
 aX.cons Tryz.func105 (by kernel_rfl) <|
 aX.cons Tryz.func106 (by kernel_rfl) <|
 aX.cons Tryz.func107 (by kernel_rfl) <|
 aX.cons Tryz.func108 (by kernel_rfl) <|
 aX.cons Tryz.func109 (by kernel_rfl) <|
 aX.cons Tryz.func110 (by kernel_rfl) <|
 aX.cons Tryz.func111 (by kernel_rfl) <|
 aX.cons Tryz.func112 (by kernel_rfl) <|
 aX.cons Tryz.func113 (by kernel_rfl) <|
 aX.cons Tryz.func114 (by kernel_rfl) <|
 aX.cons Tryz.func115 (by kernel_rfl) <|
 aX.cons Tryz.func116 (by kernel_rfl) <|
 aX.cons Tryz.func117 (by kernel_rfl) <|
 aX.cons Tryz.func118 (by kernel_rfl) <|
 aX.cons Tryz.func119 (by kernel_rfl) <|
 aX.cons Tryz.func120 (by kernel_rfl) <|
 aX.cons Tryz.func121 (by kernel_rfl) <|
 aX.cons Tryz.func122 (by kernel_rfl) <|
 aX.cons Tryz.func123 (by kernel_rfl) <|
 aX.cons Tryz.func124 (by kernel_rfl) <|
 aX.cons Tryz.func125 (by kernel_rfl) <|
 aX.cons Tryz.func126 (by kernel_rfl) <|
 aX.cons Tryz.func127 (by kernel_rfl) <|
 aX.cons Tryz.func128 (by kernel_rfl) <|
 aX.cons Tryz.func129 (by kernel_rfl) <|
 aX.cons Tryz.func130 (by kernel_rfl) <|
 aX.cons Tryz.func131 (by kernel_rfl) <|
 aX.cons Tryz.func132 (by kernel_rfl) <|
 aX.cons Tryz.func133 (by kernel_rfl) <|
 aX.cons Tryz.func134 (by kernel_rfl) <|
 aX.cons Tryz.func135 (by kernel_rfl) <|
 aX.cons Tryz.func136 (by kernel_rfl) <|
 aX.cons Tryz.func137 (by kernel_rfl) <|
 aX.cons Tryz.func138 (by kernel_rfl) <|
 aX.cons Tryz.func139 (by kernel_rfl) <|
 aX.cons Tryz.func140 (by kernel_rfl) <|
 aX.cons Tryz.func141 (by kernel_rfl) <|
 aX.cons Tryz.func142 (by kernel_rfl) <|
 aX.cons Tryz.func143 (by kernel_rfl) <|
 aX.cons Tryz.func144 (by kernel_rfl) <|
 aX.cons Tryz.func145 (by kernel_rfl) <|
 aX.cons Tryz.func146 (by kernel_rfl) <|
 aX.cons Tryz.func147 (by kernel_rfl) <|
 aX.cons Tryz.func148 (by kernel_rfl) <|
 aX.cons Tryz.func149 (by kernel_rfl) <|
 aX.cons Tryz.func150 (by kernel_rfl) <|
 aX.cons Tryz.func151 (by kernel_rfl) <|
 aX.cons Tryz.func152 (by kernel_rfl) <|
 aX.cons Tryz.func153 (by kernel_rfl) <|
 aX.cons Tryz.func154 (by kernel_rfl) <|
 aX.cons Tryz.func155 (by kernel_rfl) <|
 aX.cons Tryz.func156 (by kernel_rfl) <|
 aX.cons Tryz.func157 (by kernel_rfl) <|
 aX.cons Tryz.func158 (by kernel_rfl) <|
 aX.cons Tryz.func159 (by kernel_rfl) <|
 aX.cons Tryz.func160 (by kernel_rfl) <|
 aX.cons Tryz.func161 (by kernel_rfl) <|
 aX.cons Tryz.func162 (by kernel_rfl) <|
 aX.cons Tryz.func163 (by kernel_rfl) <|
 aX.cons Tryz.func164 (by kernel_rfl) <|
 aX.cons Tryz.func165 (by kernel_rfl) <|
 aX.cons Tryz.func166 (by kernel_rfl) <|
 aX.cons Tryz.func167 (by kernel_rfl) <|
 aX.cons Tryz.func168 (by kernel_rfl) <|
 aX.cons Tryz.func169 (by kernel_rfl) <|
 aX.cons Tryz.func170 (by kernel_rfl) <|
 aX.cons Tryz.func171 (by kernel_rfl) <|
 aX.nil
theorem FF:Tryz.prog.follows .mixedOrders=true:=by kernel_rfl
def bX(a b:List HP):Prop:= ∀(w:World) (Fs:List HP),bK (a++Fs) w→bK (b++Fs) w
theorem bX.refl(a:List HP):bX a a:=fun _ _ h=>h
theorem bX.trans{a b c:List HP}(h:bX a b)(k:bX b c):bX a c:=fun w Fs o=>k w Fs (h w Fs o)
theorem Qi{α:Type}{a b:List α}(h:b.Sublist a): ∃f:Nat→Nat,(∀i j,f i=f j→i=j)∧∀(j:Nat) x,b[j]? =some x→a[f j]? =some x:=by
 induction h with
 | slnil=>exact⟨id,fun _ _ h=>h,fun _ _ h=>h⟩
 | cons x _ ih=>
  obtain⟨f,h1,h2⟩:=ih;exact⟨fun j=>f j+1,fun i j h=>h1 i j (by simpa using h),fun j y hy=>by simpa using h2 j y hy⟩
 | cons_cons x _ ih=>
  obtain⟨f,h1,h2⟩:=ih;refine⟨fun j=>match j with | 0=>0 | j+1=>f j+1,fun i j h=>?_,fun j y hy=>?_⟩
  ·cases i<;>cases j<;>simp at h ⊢
   exact h1 _ _ h
  ·cases j with
   | zero=>simpa using hy
   | succ j=>simpa using h2 j y (by simpa using hy)
theorem bK.sub{a b:List HP}{w:World}(h:bK a w)(hs:b.Sublist a):bK b w:=by
 obtain⟨f,h1,h2⟩:=Qi hs;refine h.sI (fun j=>some (f j)) (fun j x hx=> .inr ⟨f j,rfl,h2 j x hx⟩) ?_;intro j j' i hj k9 _ _;cases hj;simp only [aeX]at k9;exact h1 _ _ k9.symm
theorem bX.sub{a b:List HP}(h:b.Sublist a):bX a b:=fun _ _ o=>o.sub (List.Sublist.append h (List.Sublist.refl _))
theorem bX.put{a:List HP}(i:Nat)(h0 h':HP)(hi:a[i]? =some h0)(hw:h'.wr=true→h0.wr=true)(hp: ∀w S,h0.p w S→∃S':Nat→Prop,(∀k,S' k→S k)∧h'.p w S'):bX a (a.set i h'):=by
 intro w Fs ⟨S,hS⟩;have bU:i<a.length:=(aeV.1 hi).1;obtain⟨S',h1,h2⟩:=hp _ _ (hS.at_ i h0 (by rw [ae1 bU];exact hi)).1;exact bK.weaken hS i h0 h' hi hw S' h1 h2
theorem aw.post{P:Program}{f:Nat}{args:List Value}{pre:List HP}{p q:Value→List HP→Prop}(h:aw P f args pre p)(hpq: ∀v hs,p v hs→∃nI,bX hs nI∧q v nI):aw P f args pre q:=by
 intro w Fs o;refine(h w Fs o).mono ?_;rintro e w' ⟨v,hs,he,hp,ho,nI⟩;obtain⟨vW,h1,h2⟩:=hpq v hs hp;exact⟨v,vW,he,h2,h1 _ _ ho,nI⟩
theorem aw.pre{P:Program}{f:Nat}{args:List Value}{pre S9:List HP}{p:Value→List HP→Prop}(h:aw P f args S9 p)(he:bX pre S9):aw P f args pre p:=
 fun w Fs o=>h w Fs (he _ _ o)
theorem MN{w:World}{t s n:Nat}{v:Value}{cs:List Value}{S:Nat→Prop}(h:(aE true t s v n cs).p w S):(aE false t s v n cs).p w (fun k=>S k∧0<n):=by
 obtain⟨hv,hl⟩:=ug h;refine⟨by simp only [Bool.false_eq_true,if_false];exact⟨hl,hv⟩,fun k=>?_⟩;show(S k∧0<n)↔_;rw [h.2 k];simp
def o3(k:IntKind)(w:World)(a:Option Addr)(len cap:Nat)(zs:List Int):Prop:=
 (a=none∧len=0∧cap=0∧zs=[])∨
 ∃x,a=some x∧len≤cap∧cap≤maxLen∧zs.length=cap∧(∀i,i<zs.length→w.cell? (x.add i)=some (.int k (zs.getD i 0)))∧∀n∈zs,(Lit.int k n).wf=true
theorem je(k:IntKind)(n:Nat)(f:Nat→Int):aQ n [aO k 1 f]=al k n f:=by
 unfold aQ al
 induction n with
 | zero=>rfl
 | succ n ih=>
  rw [List.range_succ,List.flatMap_append,List.map_append,ih];simp [aO,al]
theorem AA{k:IntKind}{w:World}{a:Option Addr}{len cap:Nat}{zs:List Int}(h:o3 k w a len cap zs)(t:Nat):
  (aE false t 1 (.slice a len cap) len (aQ len [aO k 1 fun i=>zs.getD i 0])).p w (fun b=>(Value.slice a len cap).ownBlock=some b∧0<len)∧
   ∀b,(Value.slice a len cap).ownBlock=some b∧0<len→b<w.heap.size:=by
 refine⟨⟨?_,fun b=>by simp⟩,?_⟩
 ·simp only [Bool.false_eq_true,if_false];rw [je];refine⟨by simp [aG],a,len,cap,rfl,rfl,?_,?_,?_⟩
  ·rcases h with⟨_,rfl,rfl,_⟩ | ⟨x,_,h,_⟩
   ·exact Nat.le_refl _
   ·exact h
  ·rintro rfl;rcases h with⟨_,h,_⟩ | ⟨x,h,_⟩
   ·exact h
   ·cases h
  ·rintro ad rfl;rcases h with⟨h,_⟩ | ⟨x,h,hl,_,hz,hc,_⟩
   ·cases h
   ·cases h;constructor
    ·intro qx;have h0:=hc 0 (by omega);rw [jJ]at h0;exact World.cell?_spot h0
    ·intro j u hu;rw [bu]at hu;split at hu
     ·rename_i hj;rw [hc j (by omega),←hu]
     ·cases hu
 ·rintro b ⟨hb,qx⟩;rcases h with⟨rfl,rfl,_⟩ | ⟨x,rfl,hl,_,hz,hc,_⟩
  ·omega
  ·simp only [Value.ownBlock,aeX]at hb;subst hb;have:=World.block_lt_of_cell? w (x.add 0) (hc 0 (by omega));rw [jJ]at this;exact this
theorem aw.kJ{P:Program}{C:Ctx}(hT:bG P C.T=true)(Az:aX P C.FT)(hm:P.follows .mixedOrders=true){f:Nat}{fd:Func}(hf:P.funcs[f]? =some fd){ar:Value→List HP→Prop}{args:List SV}{hp:List Ck}{bd:cP}{ρ:Env}(hl:fJ ρ bd)
  {g:F} {s:Prop} (e:iq C f args hp bd fd=g) (hv:VC P ar g ρ (fun _=>LC.none)=s) (hs:s) (Ea:fZ P C:=by exact fZ.none rfl):aw P f (SV.vals ρ args) (hp.map (Ck.den ρ)) ar:=by
 subst e;subst hv;exact aw.MM hT Az hm hf hl hs Ea
theorem MO{α:Type}{a b:List α}(h:a.Perm b): ∃f:Nat→Nat,(∀i j,f i=f j→i=j)∧∀(j:Nat) x,b[j]? =some x→a[f j]? =some x:=by
 induction h with
 | nil=>exact⟨id,fun _ _ h=>h,fun _ _ h=>h⟩
 | cons x _ ih=>
  obtain⟨f,h1,h2⟩:=ih;refine⟨fun j=>match j with | 0=>0 | j+1=>f j+1,fun i j h=>?_,fun j y hy=>?_⟩
  ·cases i<;>cases j<;>simp at h ⊢
   exact h1 _ _ h
  ·cases j with
   | zero=>simpa using hy
   | succ j=>simpa using h2 j y (by simpa using hy)
 | swap x y l=>
  refine⟨fun j=>match j with | 0=>1 | 1=>0 | j+2=>j+2,fun i j h=>?_,fun j z hz=>?_⟩
  ·match i,j,h with
   | 0,0,_=>rfl
   | 1,1,_=>rfl
   | 0,1,h=>simp at h
   | 1,0,h=>simp at h
   | 0,j+2,h=>simp at h
   | 1,j+2,h=>simp at h
   | i+2,0,h=>simp at h
   | i+2,1,h=>simp at h
   | i+2,j+2,h=>simpa using h
  ·match j,hz with
   | 0,hz=>simpa using hz
   | 1,hz=>simpa using hz
   | j+2,hz=>simpa using hz
 | trans _ _ ih1 ih2=>
  obtain⟨f,f1,f2⟩:=ih1;obtain⟨g,g1,g2⟩:=ih2;exact⟨fun j=>f (g j),fun i j h=>g1 _ _ (f1 _ _ h),fun j x hx=>f2 _ _ (g2 _ _ hx)⟩
theorem bK.perm{a b:List HP}{w:World}(h:bK a w)(hp:a.Perm b):bK b w:=by
 obtain⟨f,h1,h2⟩:=MO hp;refine h.sI (fun j=>some (f j)) (fun j x hx=> .inr ⟨f j,rfl,h2 j x hx⟩) ?_;intro j j' i hj k9 _ _;cases hj;simp only [aeX]at k9;exact h1 _ _ k9.symm
theorem bX.perm{a b:List HP}(h:a.Perm b):bX a b:=fun _ _ o=>o.perm (h.append_right _)
theorem bX.frame{a b:List HP}(h:bX a b)(r:List HP):bX (a++r) (b++r):=fun w Fs o=>by
 rw [List.append_assoc]at o ⊢;exact h w (r++Fs) o
theorem aw.frame{P:Program}{f:Nat}{args:List Value}{pre:List HP}{post:Value→List HP→Prop}(h:aw P f args pre post)(r:List HP):
  aw P f args (pre++r) fun v hs=> ∃DS,hs=DS++r∧post v DS:=by
 intro w Fs o;rw [List.append_assoc]at o;refine(h w (r++Fs) o).mono ?_;rintro e w' ⟨v,hs,he,hp,ho,nI⟩;exact⟨v,hs++r,he,⟨hs,rfl,hp⟩,by rw [List.append_assoc];exact ho,nI⟩
def HP.ex{α:Type}(F:α→HP):HP where
 wr:=true
 p w S:= ∃a,(F a).p w S
 stable w w' S h hk:=by
  obtain⟨a,ha⟩:=h;exact⟨a,(F a).stable w w' S ha hk⟩
theorem bX.ex{α:Type}{F:α→HP}(a:α)(hw:(F a).wr=true):bX [F a] [HP.ex F]:=by
 have:=bX.put (a:=[F a]) 0 (F a) (HP.ex F) rfl (fun _=>hw) fun w S h=>⟨S,fun _ h=>h,⟨a,h⟩⟩
 simpa using this
theorem aw.ex{α:Type}{F:α→HP}{P:Program}{f:Nat}{args:List Value}{R:List HP}{post:Value→List HP→Prop}(h: ∀a,aw P f args (F a::R) post):aw P f args (HP.ex F::R) post:=by
 intro w Fs ⟨S,hS⟩;obtain⟨⟨a,ha⟩,hb⟩:=hS.at_ 0 (HP.ex F) rfl;refine h a w Fs ⟨S,⟨fun i x hx=>?_,fun i j x y eZ hx hy hw=>?_⟩⟩
 ·match i,hx with
  | 0,hx=>simp at hx;subst hx;exact⟨ha,hb⟩
  | i+1,hx=>exact hS.at_ (i+1) x (by simpa using hx)
 ·match i,j,eZ,hx,hy with
  | 0,0,eZ,_,_=>exact absurd rfl eZ
  | 0,j+1,_,_,hy=>exact hS.apart 0 (j+1) (HP.ex F) y (by omega) rfl (by simpa using hy) (.inl rfl)
  | i+1,0,_,hx,_=>exact hS.apart (i+1) 0 x (HP.ex F) (by omega) (by simpa using hx) rfl (.inr rfl)
  | i+1,j+1,eZ,hx,hy=>exact hS.apart (i+1) (j+1) x y eZ (by simpa using hx) (by simpa using hy) hw
def cP.only(c:cP):Bool:=c.i==0&&c.a==0&&c.bo==0&&c.p==0&&c.r==0
def SV.same:SV→SV→Bool
 | .int k (.lit n),.int k' (.lit m)=>k==k'&&n==m
 | .bool (.lit a),.bool (.lit b)=>a==b
 | .str l,.str l'=>l==l'
 | .agg a,.agg b=>eR (lQ a) (lQ b)
 | .rR [a,b],.rR [c,d]=>SV.same a c&&SV.same b d
 | _,_=>false
def g9(a:Nat→Int)(n:Int):Nat→Int:=aq (aI (fun _=>0) 1 (ag n) a) 0 n
theorem AB(a:Nat→Int)(n:Int):cj (g9 a n)=(List.range n.toNat).map fun j=>UInt8.ofNat (a j).toNat:=by
 have:=ri {av:=[a],iv:=[n]} (.aL 0) (.var 0);exact this
theorem aw.oa{P:Program}{C:Ctx}(hT:bG P C.T=true)(Az:aX P C.FT)(hm:P.follows .mixedOrders=true){f:Nat}{fd:Func}(hf:P.funcs[f]? =some fd){args:List SV}{bd:cP}{ρ:Env}(hl:fJ ρ bd)(Q:Value→Prop)
  {g:F} {s:Prop} (e:iq C f args [] bd fd=g) (hv:VC P (fun v _=>Q v) g ρ (fun _=>LC.none)=s) (hs:s) (Ea:fZ P C:=by exact fZ.none rfl):aw P f (SV.vals ρ args) [] (fun v hs=>Q v∧hs=[]):=by
 subst e;subst hv;have:=aw.MM (ar:=fun v _=>Q v) (hp:=[]) hT Az hm hf hl hs Ea;exact this.post fun v hs h=>⟨[],bX.sub (List.nil_sublist _),h,rfl⟩
theorem bK.dup{h:HP}{hs:List HP}{w:World}(hw:h.wr=false)(ho:bK (h::hs) w):bK (h::h::hs) w:=by
 obtain⟨S,hS⟩:=ho;refine⟨fun i=>S (i - 1),⟨?_,?_⟩⟩
 ·intro i x hx;cases i with
  | zero=>
   simp at hx;subst hx;exact hS.at_ 0 _ rfl
  | succ i=>exact hS.at_ i x (by simpa using hx)
 ·intro i j x y ru hx hy tx;cases i with
  | zero=>
   cases j with
   | zero=>exact absurd rfl ru
   | succ j=>
    simp at hx;subst hx;cases j with
    | zero=>
     simp at hy;subst hy;simp [hw]at tx
    | succ j=>exact hS.apart 0 (j+1) _ y (by omega) rfl (by simpa using hy) tx
  | succ i=>
   cases j with
   | zero=>
    simp at hy;subst hy;cases i with
    | zero=>
     simp at hx;subst hx;simp [hw]at tx
    | succ i=>exact hS.apart (i+1) 0 x _ (by omega) (by simpa using hx) rfl tx
   | succ j=>exact hS.apart i j x y (by omega) (by simpa using hx) (by simpa using hy) tx
theorem aw.look{P:Program}{f:Nat}{args:List Value}{h:HP}{Q:Value→Prop}(hw:h.wr=false)(hm:aw P f args [h] fun v _=>Q v):aw P f args [h] fun v hs=>Q v∧hs=[h]:=by
 intro w Fs ho;refine(hm w (h::Fs) (bK.dup hw ho)).mono ?_;rintro e w' ⟨v,hs,rfl,hq,H4,q9⟩;exact⟨v,[h],rfl,⟨hq,rfl⟩,bK.sub H4 (List.sublist_append_right _ _),q9⟩
theorem aw.know{P:Program}{f:Nat}{args:List Value}{pre:List HP}{p Q:Value→List HP→Prop}(h:aw P f args pre p)(hq: ∀v hs,p v hs→∀(w:World) (Fs:List HP),bK (hs++Fs) w→Q v hs):
  aw P f args pre fun v hs=>p v hs∧Q v hs:=by
 intro w Fs o;refine(h w Fs o).mono ?_;rintro e w' ⟨v,hs,he,hp,ho,nI⟩;exact⟨v,hs,he,⟨hp,hq v hs hp _ _ ho⟩,ho,nI⟩
def au(B:List HP)(h:HP):Prop:=h.wr=false∧∀(w:World) (S:Nat→Nat→Prop),Sep B S w→∃S':Nat→Prop,h.p w S'∧∀k,S' k→∃i,i<B.length∧S i k
theorem Sep.mid{A B C:List HP}{S:Nat→Nat→Prop}{w:World}(h:Sep (A++B++C) S w):Sep B (fun i=>S (A.length+i)) w:=by
 have key: ∀(i:Nat) x,B[i]? =some x→(A++B++C)[A.length+i]? =some x:=by
  intro i x hx;have hl:i<B.length:=(aeV.1 hx).1;rw [ae1 (by simp;omega),ae2 (by omega),Nat.add_sub_cancel_left,hx]
 exact⟨fun i x hx=>h.at_ _ x (key i x hx),fun i j x y ru hx hy hw=>h.apart _ _ x y (by omega) (key i x hx) (key j y hy) hw⟩
def ob(w0:World)(U:Nat→Prop):HP where
 wr:=false
 p w T:=(∀k,T k↔U k)∧∀k,U k→w.heap[k]? =w0.heap[k]?
 stable _ _ _ h hk:=⟨h.1,fun k hu=>(hk k ((h.1 k).2 hu)).trans (h.2 k hu)⟩
theorem aw.VZ{P:Program}{f:Nat}{args:List Value}{A B L:List HP}{Q:Value→List HP→Prop}(hm:aw P f args (A++L) Q)(hQ: ∀v hs,Q v hs→∀h∈hs,h.wr=true)(hL: ∀h∈L,au B h):
  aw P f args (A++B) fun v hs=> ∃DS,Q v DS∧hs=DS++B:=by
 intro w Fs ⟨S,hS⟩;have gA: ∀(i:Nat) x,A[i]? =some x→(A++B++Fs)[i]? =some x:=by
  intro i x hx;have hl:i<A.length:=(aeV.1 hx).1;rw [ae1 (by simp;omega),ae1 hl,hx]
 have gB: ∀(i:Nat) x,B[i]? =some x→(A++B++Fs)[A.length+i]? =some x:=by
  intro i x hx;have hl:i<B.length:=(aeV.1 hx).1;rw [ae1 (by simp;omega),ae2 (by omega),Nat.add_sub_cancel_left,hx]
 have gR: ∀(i:Nat) x,(B++Fs)[i]? =some x→(A++B++Fs)[A.length+i]? =some x:=by
  intro i x hx;rw [List.append_assoc,ae2 (by omega),Nat.add_sub_cancel_left,hx]
 have hSB:Sep B (fun i=>S (A.length+i)) w:=Sep.mid hS
 let U:Nat→Prop:=fun k=>k<w.heap.size∧∀i x,A[i]? =some x→x.wr=true→¬S i k
 have hc: ∀i:Nat,∃S':Nat→Prop,∀x,L[i]? =some x→x.p w S'∧∀k,S' k→∃j,j<B.length∧S (A.length+j) k:=by
  intro i;cases hi:L[i]? with
  | none=>exact⟨fun _=>False,fun x hx=>nomatch hx⟩
  | some y=>
   obtain⟨S',Mm⟩:=(hL y (afr hi)).2 w _ hSB;exact⟨S',fun x hx=>by cases hx;exact Mm⟩
 obtain⟨S1,Ed⟩:=Classical.axiomOfChoice hc;have wrL: ∀(i:Nat) x,L[i]? =some x→x.wr=false:=fun i x hx=>(hL x (afr hx)).1
 have o1:bK (A++L++[ob w U]) w:=by
  have tw: ∀(i:Nat) x,(A++L++[ob w U])[i]? =some x→(i<A.length∧A[i]? =some x)∨(A.length≤i∧i<A.length+L.length∧L[i - A.length]? =some x)∨(i=A.length+L.length∧x=ob w U):=by
   intro i x hx;by_cases h1:i<A.length
   ·rw [ae1 (by simp;omega),ae1 h1]at hx;exact .inl ⟨h1,hx⟩
   ·by_cases h2:i<A.length+L.length
    ·rw [ae1 (by simp;omega),ae2 (by omega)]at hx;exact .inr (.inl ⟨by omega,h2,hx⟩)
    ·rw [ae2 (by simp;omega)]at hx;have:i - (A++L).length=0:=by
      rcases Nat.eq_zero_or_pos (i - (A++L).length)with h | h
      ·exact h
      ·rw [afz (by simp at h ⊢;omega)]at hx;cases hx
     rw [this]at hx;cases hx;simp at this;exact .inr (.inr ⟨by omega,rfl⟩)
  refine⟨fun i=>if i<A.length then S i else if i<A.length+L.length then S1 (i - A.length)else U,⟨?_,?_⟩⟩
  ·intro i x hx;rcases tw i x hx with⟨h,hx⟩ | ⟨h,h',hx⟩ | ⟨h,rfl⟩
   ·simp only [if_pos h];exact hS.at_ i x (gA i x hx)
   ·simp only [if_neg (afK.2 h),if_pos h'];obtain⟨hp,hs⟩:=Ed _ x hx;refine⟨hp,fun k hk=>?_⟩;obtain⟨j,hj,Y4⟩:=hs k hk;exact(hS.at_ _ _ (gB j _ (afA hj))).2 k Y4
   ·subst h;simp only [if_neg (show¬A.length+L.length<A.length by omega),if_neg (Nat.lt_irrefl _)];exact⟨⟨fun _=>Iff.rfl,fun _ _=>rfl⟩,fun k hk=>hk.1⟩
  ·have half: ∀i j x y,i≠j→(A++L++[ob w U])[i]? =some x→(A++L++[ob w U])[j]? =some y→x.wr=true→∀k,(if i<A.length then S i else if i<A.length+L.length then S1 (i - A.length)else U) k→¬(if j<A.length then S j else if j<A.length+L.length then S1 (j - A.length)else U) k:=by
    intro i j x y ru hx hy hw k;rcases tw i x hx with⟨h,hx⟩ | ⟨h,h',hx⟩ | ⟨h,rfl⟩
    ·simp only [if_pos h];rcases tw j y hy with⟨g,hy⟩ | ⟨g,g',hy⟩ | ⟨g,rfl⟩
     ·simp only [if_pos g];exact hS.apart i j x y ru (gA i x hx) (gA j y hy) (.inl hw) k
     ·simp only [if_neg (afK.2 g),if_pos g'];intro hk mY;obtain⟨m,hm,Y4⟩:=(Ed _ y hy).2 k mY;exact hS.apart i (A.length+m) x _ (by omega) (gA i x hx) (gB m _ (afA hm)) (.inl hw) k hk Y4
     ·subst g;simp only [if_neg (show¬A.length+L.length<A.length by omega),if_neg (Nat.lt_irrefl _)];exact fun hk hu=>hu.2 i x hx hw hk
    ·rw [wrL _ x hx]at hw;cases hw
    ·cases hw
   intro i j x y ru hx hy hw k hk mY;rcases hw with hw | hw
   ·exact half i j x y ru hx hy hw k hk mY
   ·exact half j i y x (Ne.symm ru) hy hx hw k mY hk
 refine(hm w _ o1).mono ?_;rintro e w' ⟨v,hs,rfl,hq,⟨S2,V0⟩,q9⟩;refine⟨v,hs++B,rfl,⟨hs,hq,rfl⟩,?_,q9⟩;have hK:=V0.at_ hs.length (ob w U) (by simp);have wr2:=hQ v hs hq;have g2: ∀(i:Nat) x,hs[i]? =some x→(hs++[ob w U])[i]? =some x:=fun i x hx=>by
  rw [ae1 (aeV.1 hx).1,hx]
 have Y5: ∀(j:Nat) y,(B++Fs)[j]? =some y→∀k,S (A.length+j) k→U k:=by
  intro j y hy k hk;refine⟨(hS.at_ _ y (gR j y hy)).2 k hk,fun i x hx hw mY=>?_⟩;have hl:i<A.length:=(aeV.1 hx).1;exact hS.apart i (A.length+j) x y (by omega) (gA i x hx) (gR j y hy) (.inl hw) k mY hk
 have tw: ∀(i:Nat) x,(hs++B++Fs)[i]? =some x→(i<hs.length∧hs[i]? =some x)∨(hs.length≤i∧(B++Fs)[i - hs.length]? =some x):=by
  intro i x hx;rw [List.append_assoc]at hx;by_cases h1:i<hs.length
  ·rw [ae1 h1]at hx;exact .inl ⟨h1,hx⟩
  ·rw [ae2 (by omega)]at hx;exact .inr ⟨by omega,hx⟩
 refine⟨fun i=>if i<hs.length then S2 i else S (A.length+(i - hs.length)),⟨?_,?_⟩⟩
 ·intro i x hx;rcases tw i x hx with⟨h,hx⟩ | ⟨h,hx⟩
  ·simp only [if_pos h];exact V0.at_ i x (g2 i x hx)
  ·simp only [if_neg (afK.2 h)];obtain⟨hp,hb⟩:=hS.at_ _ x (gR _ x hx);refine⟨x.stable _ _ _ hp fun k hk=>?_,fun k hk=>ae_ (hb k hk) q9.size⟩;exact hK.1.2 k (Y5 _ x hx k hk)
 ·have half: ∀i j x y,i≠j→(hs++B++Fs)[i]? =some x→(hs++B++Fs)[j]? =some y→x.wr=true→∀k,(if i<hs.length then S2 i else S (A.length+(i - hs.length))) k→¬(if j<hs.length then S2 j else S (A.length+(j - hs.length))) k:=by
   intro i j x y ru hx hy hw k;rcases tw i x hx with⟨h,hx⟩ | ⟨h,hx⟩
   ·simp only [if_pos h];rcases tw j y hy with⟨g,hy⟩ | ⟨g,hy⟩
    ·simp only [if_pos g];exact V0.apart i j x y ru (g2 i x hx) (g2 j y hy) (.inl hw) k
    ·simp only [if_neg (afK.2 g)];intro hk mY;exact V0.apart i hs.length x (ob w U) (by omega) (g2 i x hx) (by simp) (.inl hw) k hk ((hK.1.1 k).2 (Y5 _ y hy k mY))
   ·simp only [if_neg (afK.2 h)];rcases tw j y hy with⟨g,hy⟩ | ⟨g,hy⟩
    ·simp only [if_pos g];intro hk mY;exact V0.apart j hs.length y (ob w U) (by omega) (g2 j y hy) (by simp) (.inl (wr2 y (afr hy))) k mY ((hK.1.1 k).2 (Y5 _ x hx k hk))
    ·simp only [if_neg (afK.2 g)];exact hS.apart _ _ x y (by omega) (gR _ x hx) (gR _ y hy) (.inl hw) k
  intro i j x y ru hx hy hw k hk mY;rcases hw with hw | hw
  ·exact half i j x y ru hx hy hw k hk mY
  ·exact half j i y x (Ne.symm ru) hy hx hw k mY hk
theorem au.own{t s n:Nat}{v:Value}{cs:List Value}:au [aE true t s v n cs] (aE false t s v n cs):=by
 refine⟨rfl,fun w S h=>?_⟩;exact⟨_,MN (h.at_ 0 _ rfl).1,fun k hk=>⟨0,by simp,hk.1⟩⟩
theorem au.self{h:HP}(hw:h.wr=false):au [h] h:=⟨hw,fun _ _ hS=>⟨_,(hS.at_ 0 _ rfl).1,fun _ hk=>⟨0,by simp,hk⟩⟩⟩
theorem au.mid{A B C:List HP}{h:HP}(hb:au B h):au (A++B++C) h:=by
 refine⟨hb.1,fun w S hS=>?_⟩;obtain⟨S',hp,hs⟩:=hb.2 w _ (Sep.mid hS);refine⟨S',hp,fun k hk=>?_⟩;obtain⟨i,hi,hk⟩:=hs k hk;exact⟨A.length+i,by simp;omega,hk⟩
theorem au.left{B C:List HP}{h:HP}(hb:au B h):au (B++C) h:=au.mid (A:=[]) hb
theorem au.right{A B:List HP}{h:HP}(hb:au B h):au (A++B) h:=by
 have:=au.mid (A:=A) (C:=[]) hb
 rwa [List.append_nil]at this
theorem au.map{B:List HP}{h h':HP}(hb:au B h)(hw:h'.wr=false)(hp: ∀w S,h.p w S→∃S':Nat→Prop,h'.p w S'∧∀k,S' k→S k):au B h':=by
 refine⟨hw,fun w S hS=>?_⟩;obtain⟨S1,h1,h2⟩:=hb.2 w S hS;obtain⟨S2,h3,h4⟩:=hp w S1 h1;exact⟨S2,h3,fun k hk=>h2 k (h4 k hk)⟩
theorem MP{w:World}{t s n lo hi:Nat}{mx:Option Nat}{v:Value}{cs:List Value}{S:Nat→Prop}(h:(aE false t s v n cs).p w S)(h1:lo≤hi)(h2:hi≤n)(h3: ∀m,mx=some m→hi≤m):
  ∃S':Nat→Prop,(aE false t s (aD s v lo hi mx) (hi - lo) ((cs.drop (lo*s)).take ((hi - lo)*s))).p w S'∧∀k,S' k→S k:=by
 obtain⟨h0,hS⟩:=h;simp only [Bool.false_eq_true,if_false]at h0;obtain⟨hlen,a,m,c,rfl,rfl,PK,hn,hv⟩:=h0;refine⟨fun k=>(aD s (.slice a m c) lo hi mx).ownBlock=some k∧0<hi - lo,⟨?_,fun k=>by simp⟩,?_⟩
 ·simp only [Bool.false_eq_true,if_false];have XH:(hi - lo)*s=hi*s - lo*s:=by rw [Nat.sub_mul]
  have XG:hi*s≤m*s:=Nat.mul_le_mul_right s h2;have Tg:lo*s≤hi*s:=Nat.mul_le_mul_right s h1;refine⟨by rw [List.length_take,List.length_drop,hlen];omega,_,_,_,rfl,rfl,?_,?_,?_⟩
  ·cases mx with
   | none=>simp;omega
   | some x=>have:=h3 x rfl;simp;omega
  ·intro he;split at he
   ·have:=hn he;omega
   ·rw [Option.map_eq_none_iff]at he;have:=hn he;omega
  ·intro ad he;by_cases Qj:lo=hi
   ·subst Qj;refine⟨by omega,?_⟩;simp
   ·have bU:mx.getD c≠lo:=by
     cases mx with
     | none=>simp;omega
     | some x=>have:=h3 x rfl;simp;omega
    rw [if_neg bU,aeY]at he;obtain⟨V2,rfl,rfl⟩:=he;obtain⟨g1,g2⟩:=hv V2 rfl;refine⟨fun _=>?_,fun j u hu=>?_⟩
    ·have:=g1 (by omega);unfold Addr.add;split
     ·exact this
     ·rfl
    ·rw [List.getElem?_take]at hu;split at hu
     ·rw [List.getElem?_drop]at hu;have:=g2 _ _ hu;rw [←this,dq]
     ·cases hu
 ·rintro k ⟨hk,qx⟩;refine(hS k).2 ⟨?_,.inr (by omega)⟩;unfold aD at hk;simp only [Value.ownBlock]at hk ⊢;cases a with
  | none=>have:=hn rfl;omega
  | some ad=>
   have hb:(ad.add (lo*s)).block=ad.block:=by unfold Addr.add;split<;>rfl
   by_cases hc:mx.getD c=lo
   ·rw [if_pos hc]at hk;exact hk
   ·rw [if_neg hc]at hk;simp only [Option.map_some,hb]at hk;exact hk
theorem au.sub{B:List HP}{t s n lo hi:Nat}{mx:Option Nat}{v:Value}{cs:List Value}(hb:au B (aE false t s v n cs))(h1:lo≤hi)(h2:hi≤n)(h3: ∀m,mx=some m→hi≤m):
  au B (aE false t s (aD s v lo hi mx) (hi - lo) ((cs.drop (lo*s)).take ((hi - lo)*s))):=hb.map rfl fun _ _ h=>MP h h1 h2 h3
theorem au.row{b t lo n m:Nat}{wr:Bool}{cs:List Value}(h1:lo+n≤cs.length)(h2:n≤m):
  au [ax b wr cs] (aE false t 1 (.slice (some ⟨b,lo,none⟩) n m) n ((cs.drop lo).take n)):=by
 refine⟨rfl,fun w S h=>?_⟩;obtain⟨⟨hs,ty,fz,hb,_⟩,_⟩:=h.at_ 0 _ rfl;refine⟨fun k=>k=b∧0<n,⟨?_,fun k=>?_⟩,fun k hk=>⟨0,by simp,(hs k).2 hk.1⟩⟩
 ·simp only [Bool.false_eq_true,if_false];refine⟨by rw [List.length_take,List.length_drop];omega,_,_,_,rfl,rfl,h2,by simp,?_⟩;intro ad he;cases he;refine⟨fun _=>rfl,fun j u hu=>?_⟩;rw [List.getElem?_take]at hu;split at hu
  ·rw [List.getElem?_drop]at hu;have hx:=hu;have hA:(⟨b,lo,none⟩:Addr).add j=⟨b,lo+j,none⟩:=by
    unfold Addr.add;by_cases h0:j=0
    ·rw [if_pos h0,h0];rfl
    ·rw [if_neg h0]
   rw [hA];simp only [World.cell?,hb];simpa using hx
  ·cases hu
 ·simp [Value.ownBlock,eq_comm]
def ends(k m:Nat)(hs:List HP):List HP:=hs.take k++(hs.drop k).drop ((hs.drop k).length - m)
theorem MQ(k m:Nat)(hs:List HP):(ends k m hs).Sublist hs:=by
 unfold ends
 conv=>rhs;rw [←List.take_append_drop k hs]
 exact List.Sublist.append (List.Sublist.refl _) (List.drop_sublist _ _)
theorem au.nil{B:List HP}{t s:Nat}:au B (aE false t s (.slice none 0 0) 0 []):=by
 refine⟨rfl,fun w S _=>⟨fun _=>False,⟨?_,fun k=>by simp⟩,fun _ h=>h.elim⟩⟩;simp only [Bool.false_eq_true,if_false];refine⟨by simp,none,0,0,rfl,rfl,Nat.le_refl _,fun _=>rfl,?_⟩;intro ad h;cases h
theorem aw.fp{P:Program}{f:Nat}{args:List Value}{A B L:List HP}{Q:Value→List HP→Prop}(hm:aw P f args (A++L) fun v hs=> ∃nw,Q v nw∧hs=A++nw)(hA: ∀h∈A,h.wr=true)(hQ: ∀v nw,Q v nw→∀h∈nw,h.wr=true)(hL: ∀h∈L,au B h):
  aw P f args (A++B) fun v hs=> ∃nw,Q v nw∧hs=A++B++nw:=by
 refine aw.post (aw.VZ hm ?_ hL) ?_
 ·rintro v hs ⟨nw,hq,rfl⟩ h hh;rcases List.mem_append.1 hh with hh | hh
  ·exact hA h hh
  ·exact hQ v nw hq h hh
 ·rintro v hs ⟨DS,⟨nw,hq,rfl⟩,rfl⟩;refine⟨A++B++nw,bX.perm ?_,nw,hq,rfl⟩;rw [List.append_assoc,List.append_assoc];exact List.Perm.append_left A List.perm_append_comm
end Go.RX
