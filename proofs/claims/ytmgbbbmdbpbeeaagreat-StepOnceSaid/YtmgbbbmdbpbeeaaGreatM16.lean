/- The types and functions of the seat's program. -/
import Derived.Test.YtmgbbbmdbpbeeaaGreatProg
import Derived.Test.YtmgbbbmdbpbeeaaGreatM15
open Classical renaming axiomOfChoice → ajH
open Go.Proofs.Tryz renaming prog → aiT
open Int renaming toNat → ag
open List renaming append_assoc → ajs, getElem?_append_left → aiR, getElem?_append_right → aiW, getElem?_eq_getElem → ajk, getElem?_eq_none → ajz, getElem?_eq_some_iff → aiN, mem_append → ajt, mem_of_getElem? → ajn, range → ajw
open Nat renaming lt_of_lt_of_le → ai1, not_lt → ajG
open Option renaming map_eq_some_iff → aiO, map_some → ajI
open Option.some renaming injEq → aiP
namespace Go.RX
open Go.Proofs
set_option maxRecDepth 100000
def TT:List TI:=[
 ⟨3,.int .i64,1,8,[.int .i64 (.lit 0)],[]⟩,
 ⟨4,.bool,1,1,[.bool (.lit false)],[]⟩,
 ⟨5,.int .u8,1,1,[.int .u8 (.lit 0)],[]⟩,
 ⟨9,.str,1,16,[.str []],[]⟩,
 ⟨22,.int .u16,1,2,[.int .u16 (.lit 0)],[]⟩,
 ⟨23,.int .u64,1,8,[.int .u64 (.lit 0)],[]⟩,
 ⟨24,.slice 5,1,24,[.bU],[]⟩,
 ⟨25,.arr 12 5,12,12,[.b_ .u8 12 (.lit 0)],[(some .u8,12)]⟩,
 ⟨27,.struct [(22,0),(23,1),(24,2),(25,3)],15,56,[.int .u16 (.lit 0),.int .u64 (.lit 0),.bU,.b_ .u8 12 (.lit 0)],[]⟩,
 ⟨30,.int .i64,1,8,[.int .i64 (.lit 0)],[]⟩,
 ⟨38,.slice 59,1,24,[.bU],[]⟩,
 ⟨41,.struct [(22,0),(23,1),(3,2),(24,3)],4,48,[.int .u16 (.lit 0),.int .u64 (.lit 0),.int .i64 (.lit 0),.bU],[]⟩,
 ⟨42,.ptr 112,1,8,[.gx],[]⟩,
 ⟨45,.ptr 120,1,8,[.gx],[]⟩,
 ⟨49,.ptr 55,1,8,[.gx],[]⟩,
 ⟨50,.slice 23,1,24,[.bU],[]⟩,
 ⟨51,.slice 23,1,24,[.bU],[]⟩,
 ⟨53,.struct [(41,0),(23,4),(23,5),(4,6),(51,7),(51,8)],9,120,[.int .u16 (.lit 0),.int .u64 (.lit 0),.int .i64 (.lit 0),.bU,.int .u64 (.lit 0),.int .u64 (.lit 0),.bool (.lit false),.bU,.bU],[]⟩,
 ⟨55,.struct [(45,0),(53,1)],10,128,[.gx,.int .u16 (.lit 0),.int .u64 (.lit 0),.int .i64 (.lit 0),.bU,.int .u64 (.lit 0),.int .u64 (.lit 0),.bool (.lit false),.bU,.bU],[]⟩,
 ⟨57,.slice 24,1,24,[.bU],[]⟩,
 ⟨59,.struct [(5,0),(24,1),(24,2),(23,3),(3,4)],5,72,[.int .u8 (.lit 0),.bU,.bU,.int .u64 (.lit 0),.int .i64 (.lit 0)],[]⟩,
 ⟨67,.slice 22,1,24,[.bU],[]⟩,
 ⟨68,.map 70 3,1,8,[.qY],[]⟩,
 ⟨70,.struct [(23,0),(23,1)],2,16,[.int .u64 (.lit 0),.int .u64 (.lit 0)],[(some .u64,2)]⟩,
 ⟨74,.map 3 77,1,8,[.qY],[]⟩,
 ⟨77,.struct [],0,0,[],[]⟩,
 ⟨80,.int .u8,1,1,[.int .u8 (.lit 0)],[]⟩,
 ⟨82,.struct [(80,0),(3,1),(3,2),(3,3),(3,4)],5,40,[.int .u8 (.lit 0),.int .i64 (.lit 0),.int .i64 (.lit 0),.int .i64 (.lit 0),.int .i64 (.lit 0)],[(some .u8,1),(some .i64,4)]⟩,
 ⟨86,.func,1,8,[.mh],[]⟩,
 ⟨87,.func,1,8,[.mh],[]⟩,
 ⟨89,.struct [(86,0),(87,1)],2,16,[.mh,.mh],[]⟩,
 ⟨97,.slice 3,1,24,[.bU],[]⟩,
 ⟨104,.struct [(24,0),(9,1),(30,2)],3,48,[.bU,.str [],.int .i64 (.lit 0)],[]⟩,
 ⟨105,.slice 104,1,24,[.bU],[]⟩,
 ⟨108,.struct [(22,0),(23,1),(3,2),(23,3),(24,4)],5,56,[.int .u16 (.lit 0),.int .u64 (.lit 0),.int .i64 (.lit 0),.int .u64 (.lit 0),.bU],[]⟩,
 ⟨112,.struct [(108,0),(23,5),(4,6)],7,72,[.int .u16 (.lit 0),.int .u64 (.lit 0),.int .i64 (.lit 0),.int .u64 (.lit 0),.bU,.int .u64 (.lit 0),.bool (.lit false)],[]⟩,
 ⟨113,.arr 16 23,16,128,[.b_ .u64 16 (.lit 0)],[(some .u64,16)]⟩,
 ⟨115,.struct [(4,0),(23,1),(113,2)],18,144,[.bool (.lit false),.int .u64 (.lit 0),.b_ .u64 16 (.lit 0)],[(none,1),(some .u64,17)]⟩,
 ⟨117,.struct [(108,0),(115,5)],23,200,[.int .u16 (.lit 0),.int .u64 (.lit 0),.int .i64 (.lit 0),.int .u64 (.lit 0),.bU,.bool (.lit false),.int .u64 (.lit 0),.b_ .u64 16 (.lit 0)],[]⟩,
 ⟨118,.arr 2 117,46,400,[.int .u16 (.lit 0),.int .u64 (.lit 0),.int .i64 (.lit 0),.int .u64 (.lit 0),.bU,.bool (.lit false),.int .u64 (.lit 0),.b_ .u64 16 (.lit 0),.int .u16 (.lit 0),.int .u64 (.lit 0),.int .i64 (.lit 0),.int .u64 (.lit 0),.bU,.bool (.lit false),.int .u64 (.lit 0),.b_ .u64 16 (.lit 0)],[]⟩,
 ⟨120,.struct [(118,0),(4,46)],47,408,[.int .u16 (.lit 0),.int .u64 (.lit 0),.int .i64 (.lit 0),.int .u64 (.lit 0),.bU,.bool (.lit false),.int .u64 (.lit 0),.b_ .u64 16 (.lit 0),.int .u16 (.lit 0),.int .u64 (.lit 0),.int .i64 (.lit 0),.int .u64 (.lit 0),.bU,.bool (.lit false),.int .u64 (.lit 0),.b_ .u64 16 (.lit 0),.bool (.lit false)],[]⟩,
 ⟨127,.func,1,8,[.mh],[]⟩,
 ⟨128,.ptr 117,1,8,[.gx],[]⟩,
 ⟨131,.arr 2 23,2,16,[.b_ .u64 2 (.lit 0)],[(some .u64,2)]⟩,
 ⟨132,.int .u64,1,8,[.int .u64 (.lit 0)],[]⟩,
 ⟨135,.ptr 175,1,8,[.gx],[]⟩,
 ⟨138,.arr 16 5,16,16,[.b_ .u8 16 (.lit 0)],[(some .u8,16)]⟩,
 ⟨140,.func,1,8,[.mh],[]⟩,
 ⟨146,.struct [(24,0),(24,1)],2,48,[.bU,.bU],[]⟩,
 ⟨150,.arr 2 5,2,2,[.b_ .u8 2 (.lit 0)],[(some .u8,2)]⟩,
 ⟨158,.ptr 115,1,8,[.gx],[]⟩,
 ⟨166,.map 22 82,1,8,[.qY],[]⟩,
 ⟨171,.arr 256 5,256,256,[.b_ .u8 256 (.lit 0)],[(some .u8,256)]⟩,
 ⟨173,.slice 177,1,24,[.bU],[]⟩,
 ⟨175,.struct [(171,0),(173,256)],257,280,[.b_ .u8 256 (.lit 0),.bU],[]⟩,
 ⟨177,.arr 4 5,4,4,[.b_ .u8 4 (.lit 0)],[(some .u8,4)]⟩,
 ⟨196,.arr 255 5,255,255,[.b_ .u8 255 (.lit 0)],[(some .u8,255)]⟩,
 ⟨197,.arr 256 3,256,2048,[.b_ .i64 256 (.lit 0)],[(some .i64,256)]⟩,
 ⟨201,.arr 32 5,32,32,[.b_ .u8 32 (.lit 0)],[(some .u8,32)]⟩,
 ⟨203,.arr 64 5,64,64,[.b_ .u8 64 (.lit 0)],[(some .u8,64)]⟩,
 ⟨214,.struct [(23,0),(23,1)],2,16,[.int .u64 (.lit 0),.int .u64 (.lit 0)],[(some .u64,2)]⟩,
 ⟨218,.arr 4 177,16,16,[.b_ .u8 4 (.lit 0),.b_ .u8 4 (.lit 0),.b_ .u8 4 (.lit 0),.b_ .u8 4 (.lit 0)],[(some .u8,16)]⟩,
 ⟨223,.ptr 239,1,8,[.gx],[]⟩,
 ⟨225,.int .u32,1,4,[.int .u32 (.lit 0)],[]⟩,
 ⟨226,.ptr 242,1,8,[.gx],[]⟩,
 ⟨232,.slice 225,1,24,[.bU],[]⟩,
 ⟨235,.arr 3 3,3,24,[.b_ .i64 3 (.lit 0)],[(some .i64,3)]⟩,
 ⟨237,.struct [(235,0),(235,3),(235,6),(235,9)],12,96,[.b_ .i64 3 (.lit 0),.b_ .i64 3 (.lit 0),.b_ .i64 3 (.lit 0),.b_ .i64 3 (.lit 0)],[(some .i64,12)]⟩,
 ⟨239,.struct [(232,0),(232,1),(3,2),(237,3)],15,152,[.bU,.bU,.int .i64 (.lit 0),.b_ .i64 3 (.lit 0),.b_ .i64 3 (.lit 0),.b_ .i64 3 (.lit 0),.b_ .i64 3 (.lit 0)],[]⟩,
 ⟨242,.struct [(50,0),(50,1),(3,2),(237,3)],15,152,[.bU,.bU,.int .i64 (.lit 0),.b_ .i64 3 (.lit 0),.b_ .i64 3 (.lit 0),.b_ .i64 3 (.lit 0),.b_ .i64 3 (.lit 0)],[]⟩,
 ⟨251,.arr 8 225,8,32,[.b_ .u32 8 (.lit 0)],[(some .u32,8)]⟩,
 ⟨253,.arr 8 23,8,64,[.b_ .u64 8 (.lit 0)],[(some .u64,8)]⟩]
theorem Ew:bD aiT TT=true:=by kernel_rfl
noncomputable def FT:List (Nat×Func):=[(2,Tryz.f2),(3,Tryz.f3),(4,Tryz.f4),(5,Tryz.f5),(6,Tryz.f6),(7,Tryz.f7),(8,Tryz.f8),(9,Tryz.f9),(10,Tryz.f10),(11,Tryz.f11),(12,Tryz.f12),(13,Tryz.f13),(14,Tryz.f14),(15,Tryz.f15),(16,Tryz.f16),(17,Tryz.f17),(18,Tryz.f18),(19,Tryz.f19),(20,Tryz.f20),(21,Tryz.f21),(22,Tryz.f22),(23,Tryz.f23),(24,Tryz.f24),(25,Tryz.f25),(26,Tryz.f26),(27,Tryz.f27),(28,Tryz.f28),(29,Tryz.f29),(30,Tryz.f30),(31,Tryz.f31),(32,Tryz.f32),(33,Tryz.f33),(34,Tryz.f34),(35,Tryz.f35),(36,Tryz.f36),(37,Tryz.f37),(38,Tryz.f38),(39,Tryz.f39),(40,Tryz.f40),(41,Tryz.f41),(42,Tryz.f42),(43,Tryz.f43),(44,Tryz.f44),(45,Tryz.f45),(46,Tryz.f46),(47,Tryz.f47),(48,Tryz.f48),(49,Tryz.f49),(50,Tryz.f50),(51,Tryz.f51),(52,Tryz.f52),(53,Tryz.f53),(54,Tryz.f54),(55,Tryz.f55),(56,Tryz.f56),(57,Tryz.f57),(58,Tryz.f58),(59,Tryz.f59),(60,Tryz.f60),(61,Tryz.f61),(62,Tryz.f62),(63,Tryz.f63),(64,Tryz.f64),(65,Tryz.f65),(66,Tryz.f66),(67,Tryz.f67),(68,Tryz.f68),(69,Tryz.f69),(70,Tryz.f70),(71,Tryz.f71),(72,Tryz.f72),(73,Tryz.f73),(74,Tryz.f74),(75,Tryz.f75),(76,Tryz.f76),(77,Tryz.f77),(78,Tryz.f78),(79,Tryz.f79),(80,Tryz.f80),(81,Tryz.f81),(82,Tryz.f82),(83,Tryz.f83),(84,Tryz.f84),(85,Tryz.f85),(86,Tryz.f86),(87,Tryz.f87),(88,Tryz.f88),(89,Tryz.f89),(90,Tryz.f90),(91,Tryz.f91),(92,Tryz.f92),(93,Tryz.f93),(94,Tryz.f94),(95,Tryz.f95),(96,Tryz.f96),(97,Tryz.f97),(98,Tryz.f98),(99,Tryz.f99),(100,Tryz.f100),(101,Tryz.f101),(102,Tryz.f102),(103,Tryz.f103),(104,Tryz.f104),(105,Tryz.f105),(106,Tryz.f106),(107,Tryz.f107),(108,Tryz.f108),(109,Tryz.f109),(110,Tryz.f110),(111,Tryz.f111),(112,Tryz.f112),(113,Tryz.f113),(114,Tryz.f114),(115,Tryz.f115),(116,Tryz.f116),(117,Tryz.f117),(118,Tryz.f118),(119,Tryz.f119),(120,Tryz.f120),(121,Tryz.f121),(122,Tryz.f122),(123,Tryz.f123),(124,Tryz.f124),(125,Tryz.f125),(126,Tryz.f126),(127,Tryz.f127),(128,Tryz.f128),(129,Tryz.f129),(130,Tryz.f130),(131,Tryz.f131),(132,Tryz.f132),(133,Tryz.f133),(134,Tryz.f134),(135,Tryz.f135),(136,Tryz.f136),(137,Tryz.f137),(138,Tryz.f138),(139,Tryz.f139),(140,Tryz.f140),(141,Tryz.f141),(142,Tryz.f142),(143,Tryz.f143),(144,Tryz.f144),(145,Tryz.f145),(146,Tryz.f146),(147,Tryz.f147),(148,Tryz.f148),(149,Tryz.f149),(150,Tryz.f150),(151,Tryz.f151),(152,Tryz.f152),(153,Tryz.f153),(154,Tryz.f154),(155,Tryz.f155),(156,Tryz.f156),(157,Tryz.f157),(158,Tryz.f158),(159,Tryz.f159),(160,Tryz.f160),(161,Tryz.f161),(162,Tryz.f162),(163,Tryz.f163),(164,Tryz.f164),(165,Tryz.f165),(166,Tryz.f166),(167,Tryz.f167),(168,Tryz.f168),(169,Tryz.f169),(170,Tryz.f170),(171,Tryz.f171)]
theorem pZ:aR
 aiT FT:=
 aR.cons Tryz.func2 (by kernel_rfl) <|
 aR.cons Tryz.func3 (by kernel_rfl) <|
 aR.cons Tryz.func4 (by kernel_rfl) <|
 aR.cons Tryz.func5 (by kernel_rfl) <|
 aR.cons Tryz.func6 (by kernel_rfl) <|
 aR.cons Tryz.func7 (by kernel_rfl) <|
 aR.cons Tryz.func8 (by kernel_rfl) <|
 aR.cons Tryz.func9 (by kernel_rfl) <|
 aR.cons Tryz.func10 (by kernel_rfl) <|
 aR.cons Tryz.func11 (by kernel_rfl) <|
 aR.cons Tryz.func12 (by kernel_rfl) <|
 aR.cons Tryz.func13 (by kernel_rfl) <|
 aR.cons Tryz.func14 (by kernel_rfl) <|
 aR.cons Tryz.func15 (by kernel_rfl) <|
 aR.cons Tryz.func16 (by kernel_rfl) <|
 aR.cons Tryz.func17 (by kernel_rfl) <|
 aR.cons Tryz.func18 (by kernel_rfl) <|
 aR.cons Tryz.func19 (by kernel_rfl) <|
 aR.cons Tryz.func20 (by kernel_rfl) <|
 aR.cons Tryz.func21 (by kernel_rfl) <|
 aR.cons Tryz.func22 (by kernel_rfl) <|
 aR.cons Tryz.func23 (by kernel_rfl) <|
 aR.cons Tryz.func24 (by kernel_rfl) <|
 aR.cons Tryz.func25 (by kernel_rfl) <|
 aR.cons Tryz.func26 (by kernel_rfl) <|
 aR.cons Tryz.func27 (by kernel_rfl) <|
 aR.cons Tryz.func28 (by kernel_rfl) <|
 aR.cons Tryz.func29 (by kernel_rfl) <|
 aR.cons Tryz.func30 (by kernel_rfl) <|
 aR.cons Tryz.func31 (by kernel_rfl) <|
 aR.cons Tryz.func32 (by kernel_rfl) <|
 aR.cons Tryz.func33 (by kernel_rfl) <|
 aR.cons Tryz.func34 (by kernel_rfl) <|
 aR.cons Tryz.func35 (by kernel_rfl) <|
 aR.cons Tryz.func36 (by kernel_rfl) <|
 aR.cons Tryz.func37 (by kernel_rfl) <|
 aR.cons Tryz.func38 (by kernel_rfl) <|
 aR.cons Tryz.func39 (by kernel_rfl) <|
 aR.cons Tryz.func40 (by kernel_rfl) <|
 aR.cons Tryz.func41 (by kernel_rfl) <|
 aR.cons Tryz.func42 (by kernel_rfl) <|
 aR.cons Tryz.func43 (by kernel_rfl) <|
 aR.cons Tryz.func44 (by kernel_rfl) <|
 aR.cons Tryz.func45 (by kernel_rfl) <|
 aR.cons Tryz.func46 (by kernel_rfl) <|
 aR.cons Tryz.func47 (by kernel_rfl) <|
 aR.cons Tryz.func48 (by kernel_rfl) <|
 aR.cons Tryz.func49 (by kernel_rfl) <|
 aR.cons Tryz.func50 (by kernel_rfl) <|
 aR.cons Tryz.func51 (by kernel_rfl) <|
 aR.cons Tryz.func52 (by kernel_rfl) <|
 aR.cons Tryz.func53 (by kernel_rfl) <|
 aR.cons Tryz.func54 (by kernel_rfl) <|
 aR.cons Tryz.func55 (by kernel_rfl) <|
 aR.cons Tryz.func56 (by kernel_rfl) <|
 aR.cons Tryz.func57 (by kernel_rfl) <|
 aR.cons Tryz.func58 (by kernel_rfl) <|
 aR.cons Tryz.func59 (by kernel_rfl) <|
 aR.cons Tryz.func60 (by kernel_rfl) <|
 aR.cons Tryz.func61 (by kernel_rfl) <|
 aR.cons Tryz.func62 (by kernel_rfl) <|
 aR.cons Tryz.func63 (by kernel_rfl) <|
 aR.cons Tryz.func64 (by kernel_rfl) <|
 aR.cons Tryz.func65 (by kernel_rfl) <|
 aR.cons Tryz.func66 (by kernel_rfl) <|
 aR.cons Tryz.func67 (by kernel_rfl) <|
 aR.cons Tryz.func68 (by kernel_rfl) <|
 aR.cons Tryz.func69 (by kernel_rfl) <|
 aR.cons Tryz.func70 (by kernel_rfl) <|
 aR.cons Tryz.func71 (by kernel_rfl) <|
 aR.cons Tryz.func72 (by kernel_rfl) <|
 aR.cons Tryz.func73 (by kernel_rfl) <|
 aR.cons Tryz.func74 (by kernel_rfl) <|
 aR.cons Tryz.func75 (by kernel_rfl) <|
 aR.cons Tryz.func76 (by kernel_rfl) <|
 aR.cons Tryz.func77 (by kernel_rfl) <|
 aR.cons Tryz.func78 (by kernel_rfl) <|
 aR.cons Tryz.func79 (by kernel_rfl) <|
 aR.cons Tryz.func80 (by kernel_rfl) <|
 aR.cons Tryz.func81 (by kernel_rfl) <|
 aR.cons Tryz.func82 (by kernel_rfl) <|
 aR.cons Tryz.func83 (by kernel_rfl) <|
 aR.cons Tryz.func84 (by kernel_rfl) <|
 aR.cons Tryz.func85 (by kernel_rfl) <|
 aR.cons Tryz.func86 (by kernel_rfl) <|
 aR.cons Tryz.func87 (by kernel_rfl) <|
 aR.cons Tryz.func88 (by kernel_rfl) <|
 aR.cons Tryz.func89 (by kernel_rfl) <|
 aR.cons Tryz.func90 (by kernel_rfl) <|
 aR.cons Tryz.func91 (by kernel_rfl) <|
 aR.cons Tryz.func92 (by kernel_rfl) <|
 aR.cons Tryz.func93 (by kernel_rfl) <|
 aR.cons Tryz.func94 (by kernel_rfl) <|
 aR.cons Tryz.func95 (by kernel_rfl) <|
 aR.cons Tryz.func96 (by kernel_rfl) <|
 aR.cons Tryz.func97 (by kernel_rfl) <|
 aR.cons Tryz.func98 (by kernel_rfl) <|
 aR.cons Tryz.func99 (by kernel_rfl) <|
 aR.cons Tryz.func100 (by kernel_rfl) <|
 aR.cons Tryz.func101 (by kernel_rfl) <|
 aR.cons Tryz.func102 (by kernel_rfl) <|
 aR.cons Tryz.func103 (by kernel_rfl) <|
 aR.cons Tryz.func104 (by kernel_rfl) <|
 aR.cons Tryz.func105 (by kernel_rfl) <|
 aR.cons Tryz.func106 (by kernel_rfl) <|
 aR.cons Tryz.func107 (by kernel_rfl) <|
 aR.cons Tryz.func108 (by kernel_rfl) <|
 aR.cons Tryz.func109 (by kernel_rfl) <|
 aR.cons Tryz.func110 (by kernel_rfl) <|
 aR.cons Tryz.func111 (by kernel_rfl) <|
 aR.cons Tryz.func112 (by kernel_rfl) <|
 aR.cons Tryz.func113 (by kernel_rfl) <|
 aR.cons Tryz.func114 (by kernel_rfl) <|
 aR.cons Tryz.func115 (by kernel_rfl) <|
 aR.cons Tryz.func116 (by kernel_rfl) <|
 aR.cons Tryz.func117 (by kernel_rfl) <|
 aR.cons Tryz.func118 (by kernel_rfl) <|
 aR.cons Tryz.func119 (by kernel_rfl) <|
 aR.cons Tryz.func120 (by kernel_rfl) <|
 aR.cons Tryz.func121 (by kernel_rfl) <|
 aR.cons Tryz.func122 (by kernel_rfl) <|
 aR.cons Tryz.func123 (by kernel_rfl) <|
 aR.cons Tryz.func124 (by kernel_rfl) <|
 aR.cons Tryz.func125 (by kernel_rfl) <|
 aR.cons Tryz.func126 (by kernel_rfl) <|
 aR.cons Tryz.func127 (by kernel_rfl) <|
 aR.cons Tryz.func128 (by kernel_rfl) <|
 aR.cons Tryz.func129 (by kernel_rfl) <|
 aR.cons Tryz.func130 (by kernel_rfl) <|
 aR.cons Tryz.func131 (by kernel_rfl) <|
 aR.cons Tryz.func132 (by kernel_rfl) <|
 aR.cons Tryz.func133 (by kernel_rfl) <|
 aR.cons Tryz.func134 (by kernel_rfl) <|
 aR.cons Tryz.func135 (by kernel_rfl) <|
 aR.cons Tryz.func136 (by kernel_rfl) <|
 aR.cons Tryz.func137 (by kernel_rfl) <|
 aR.cons Tryz.func138 (by kernel_rfl) <|
 aR.cons Tryz.func139 (by kernel_rfl) <|
 aR.cons Tryz.func140 (by kernel_rfl) <|
 aR.cons Tryz.func141 (by kernel_rfl) <|
 aR.cons Tryz.func142 (by kernel_rfl) <|
 aR.cons Tryz.func143 (by kernel_rfl) <|
 aR.cons Tryz.func144 (by kernel_rfl) <|
 aR.cons Tryz.func145 (by kernel_rfl) <|
 aR.cons Tryz.func146 (by kernel_rfl) <|
 aR.cons Tryz.func147 (by kernel_rfl) <|
 aR.cons Tryz.func148 (by kernel_rfl) <|
 aR.cons Tryz.func149 (by kernel_rfl) <|
 aR.cons Tryz.func150 (by kernel_rfl) <|
 aR.cons Tryz.func151 (by kernel_rfl) <|
 aR.cons Tryz.func152 (by kernel_rfl) <|
 aR.cons Tryz.func153 (by kernel_rfl) <|
 aR.cons Tryz.func154 (by kernel_rfl) <|
 aR.cons Tryz.func155 (by kernel_rfl) <|
 aR.cons Tryz.func156 (by kernel_rfl) <|
 aR.cons Tryz.func157 (by kernel_rfl) <|
 aR.cons Tryz.func158 (by kernel_rfl) <|
 aR.cons Tryz.func159 (by kernel_rfl) <|
 aR.cons Tryz.func160 (by kernel_rfl) <|
 aR.cons Tryz.func161 (by kernel_rfl) <|
 aR.cons Tryz.func162 (by kernel_rfl) <|
 aR.cons Tryz.func163 (by kernel_rfl) <|
 aR.cons Tryz.func164 (by kernel_rfl) <|
 aR.cons Tryz.func165 (by kernel_rfl) <|
 aR.cons Tryz.func166 (by kernel_rfl) <|
 aR.cons Tryz.func167 (by kernel_rfl) <|
 aR.cons Tryz.func168 (by kernel_rfl) <|
 aR.cons Tryz.func169 (by kernel_rfl) <|
 aR.cons Tryz.func170 (by kernel_rfl) <|
 aR.cons Tryz.func171 (by kernel_rfl) <|
 aR.nil
theorem Ex:Tryz.prog.follows .mixedOrders=true:=by kernel_rfl
def bL(a b:List HP):Prop:= ∀(w:World) (Fs:List HP),bz (a++Fs) w→bz (b++Fs) w
theorem bL.refl(a:List HP):bL a a:=fun _ _ h=>h
theorem bL.trans{a b c:List HP}(h:bL a b)(k:bL b c):bL a c:=fun w Fs o=>k w Fs (h w Fs o)
theorem Q6{α:Type}{a b:List α}(h:b.Sublist a): ∃f:Nat→Nat,(∀i j,f i=f j→i=j)∧∀(j:Nat) x,b[j]? =some x→a[f j]? =some x:=by
 induction h with
 | slnil=>exact⟨id,fun _ _ h=>h,fun _ _ h=>h⟩
 | cons x _ ih=>
  obtain⟨f,h1,h2⟩:=ih;exact⟨fun j=>f j+1,fun i j h=>h1 i j (by simpa using h),fun j y hy=>by simpa using h2 j y hy⟩
 | cons_cons x _ ih=>
  obtain⟨f,h1,h2⟩:=ih;refine⟨fun j=>match j with | 0=>0 | j+1=>f j+1,fun i j h=>?_,fun j y hy=>?_⟩
  ·cases i<;>cases j<;>simp at h ⊢
   exact h1 _ _ h
  ·cases j with
   | zero=>simpa using hy
   | succ j=>simpa using h2 j y (by simpa using hy)
theorem bz.sub{a b:List HP}{w:World}(h:bz a w)(hs:b.Sublist a):bz b w:=by
 obtain⟨f,h1,h2⟩:=Q6 hs;refine h.tf (fun j=>some (f j)) (fun j x hx=> .inr ⟨f j,rfl,h2 j x hx⟩) ?_;intro j j' i hj lH _ _;cases hj;simp only [aiP]at lH;exact h1 _ _ lH.symm
theorem bL.sub{a b:List HP}(h:b.Sublist a):bL a b:=fun _ _ o=>o.sub (List.Sublist.append h (List.Sublist.refl _))
theorem bL.put{a:List HP}(i:Nat)(h0 h':HP)(hi:a[i]? =some h0)(hw:h'.wr=true→h0.wr=true)(hp: ∀w S,h0.p w S→∃S':Nat→Prop,(∀k,S' k→S k)∧h'.p w S'):bL a (a.set i h'):=by
 intro w Fs ⟨S,hS⟩;have bX:i<a.length:=(aiN.1 hi).1;obtain⟨S',h1,h2⟩:=hp _ _ (hS.at_ i h0 (by rw [aiR bX];exact hi)).1;exact bz.weaken hS i h0 h' hi hw S' h1 h2
theorem ax.post{P:Program}{f:Nat}{args:List Value}{pre:List HP}{p q:Value→List HP→Prop}(h:ax P f args pre p)(hpq: ∀v hs,p v hs→∃nf,bL hs nf∧q v nf):ax P f args pre q:=by
 intro w Fs o;refine(h w Fs o).mono ?_;rintro e w' ⟨v,hs,he,hp,ho,nf⟩;obtain⟨vO,h1,h2⟩:=hpq v hs hp;exact⟨v,vO,he,h2,h1 _ _ ho,nf⟩
theorem ax.pre{P:Program}{f:Nat}{args:List Value}{pre Qy:List HP}{p:Value→List HP→Prop}(h:ax P f args Qy p)(he:bL pre Qy):ax P f args pre p:=
 fun w Fs o=>h w Fs (he _ _ o)
theorem NI{w:World}{t s n:Nat}{v:Value}{cs:List Value}{S:Nat→Prop}(h:(aG true t s v n cs).p w S):(aG false t s v n cs).p w (fun k=>S k∧0<n):=by
 obtain⟨hv,hl⟩:=uP h;refine⟨by simp only [Bool.false_eq_true,if_false];exact⟨hl,hv⟩,fun k=>?_⟩;show(S k∧0<n)↔_;rw [h.2 k];simp
def oX(k:IntKind)(w:World)(a:Option Addr)(len cap:Nat)(zs:List Int):Prop:=
 (a=none∧len=0∧cap=0∧zs=[])∨
 ∃x,a=some x∧len≤cap∧cap≤maxLen∧zs.length=cap∧(∀i,i<zs.length→w.cell? (x.add i)=some (.int k (zs.getD i 0)))∧∀n∈zs,(Lit.int k n).wf=true
theorem iH(k:IntKind)(n:Nat)(f:Nat→Int):aW n [bd k 1 f]=aj k n f:=by
 unfold aW aj
 induction n with
 | zero=>rfl
 | succ n ih=>
  rw [List.range_succ,List.flatMap_append,List.map_append,ih];simp [bd,aj]
theorem uV{k:IntKind}{w:World}{a:Option Addr}{len cap:Nat}{zs:List Int}(h:oX k w a len cap zs)(t:Nat):
  (aG false t 1 (.slice a len cap) len (aW len [bd k 1 fun i=>zs.getD i 0])).p w (fun b=>(Value.slice a len cap).ownBlock=some b∧0<len)∧
   ∀b,(Value.slice a len cap).ownBlock=some b∧0<len→b<w.heap.size:=by
 refine⟨⟨?_,fun b=>by simp⟩,?_⟩
 ·simp only [Bool.false_eq_true,if_false];rw [iH];refine⟨by simp [aF],a,len,cap,rfl,rfl,?_,?_,?_⟩
  ·rcases h with⟨_,rfl,rfl,_⟩ | ⟨x,_,h,_⟩
   ·exact Nat.le_refl _
   ·exact h
  ·rintro rfl;rcases h with⟨_,h,_⟩ | ⟨x,h,_⟩
   ·exact h
   ·cases h
  ·rintro ad rfl;rcases h with⟨h,_⟩ | ⟨x,h,hl,_,hz,hc,_⟩
   ·cases h
   ·cases h;constructor
    ·intro od;have h0:=hc 0 (by omega);rw [kb]at h0;exact World.cell?_spot h0
    ·intro j u hu;rw [bf]at hu;split at hu
     ·rename_i hj;rw [hc j (by omega),←hu]
     ·cases hu
 ·rintro b ⟨hb,od⟩;rcases h with⟨rfl,rfl,_⟩ | ⟨x,rfl,hl,_,hz,hc,_⟩
  ·omega
  ·simp only [Value.ownBlock,aiP]at hb;subst hb;have:=World.block_lt_of_cell? w (x.add 0) (hc 0 (by omega));rw [kb]at this;exact this
theorem ax.kf{P:Program}{C:Ctx}(hT:bD P C.T=true)(zV:aR P C.FT)(hm:P.follows .mixedOrders=true){f:Nat}{fd:Func}(hf:P.funcs[f]? =some fd){ao:Value→List HP→Prop}{args:List SV}{hp:List Ck}{aV:cz}{ρ:Env}(hl:fq ρ aV)
  {g:F} {s:Prop} (e:ig C f args hp aV fd=g) (hv:VC P ao g ρ (fun _=>LC.none)=s) (hs:s) (Cs:fg P C:=by exact fg.none rfl):ax P f (SV.bH ρ args) (hp.map (Ck.den ρ)) ao:=by
 subst e;subst hv;exact ax.NH hT zV hm hf hl hs Cs
theorem NJ{α:Type}{a b:List α}(h:a.Perm b): ∃f:Nat→Nat,(∀i j,f i=f j→i=j)∧∀(j:Nat) x,b[j]? =some x→a[f j]? =some x:=by
 induction h with
 | nil=>exact⟨id,fun _ _ h=>h,fun _ _ h=>h⟩
 | cons x _ ih=>
  obtain⟨f,h1,h2⟩:=ih;refine⟨fun j=>match j with | 0=>0 | j+1=>f j+1,fun i j h=>?_,fun j y hy=>?_⟩
  ·cases i<;>cases j<;>simp at h ⊢
   exact h1 _ _ h
  ·cases j with
   | zero=>simpa using hy
   | succ j=>simpa using h2 j y (by simpa using hy)
 | swap x y l=>
  refine⟨fun j=>match j with | 0=>1 | 1=>0 | j+2=>j+2,fun i j h=>?_,fun j z hz=>?_⟩
  ·match i,j,h with
   | 0,0,_=>rfl
   | 1,1,_=>rfl
   | 0,1,h=>simp at h
   | 1,0,h=>simp at h
   | 0,j+2,h=>simp at h
   | 1,j+2,h=>simp at h
   | i+2,0,h=>simp at h
   | i+2,1,h=>simp at h
   | i+2,j+2,h=>simpa using h
  ·match j,hz with
   | 0,hz=>simpa using hz
   | 1,hz=>simpa using hz
   | j+2,hz=>simpa using hz
 | trans _ _ ih1 ih2=>
  obtain⟨f,f1,f2⟩:=ih1;obtain⟨g,g1,g2⟩:=ih2;exact⟨fun j=>f (g j),fun i j h=>g1 _ _ (f1 _ _ h),fun j x hx=>f2 _ _ (g2 _ _ hx)⟩
theorem bz.perm{a b:List HP}{w:World}(h:bz a w)(hp:a.Perm b):bz b w:=by
 obtain⟨f,h1,h2⟩:=NJ hp;refine h.tf (fun j=>some (f j)) (fun j x hx=> .inr ⟨f j,rfl,h2 j x hx⟩) ?_;intro j j' i hj lH _ _;cases hj;simp only [aiP]at lH;exact h1 _ _ lH.symm
theorem bL.perm{a b:List HP}(h:a.Perm b):bL a b:=fun _ _ o=>o.perm (h.append_right _)
theorem bL.frame{a b:List HP}(h:bL a b)(r:List HP):bL (a++r) (b++r):=fun w Fs o=>by
 rw [ajs]at o ⊢;exact h w (r++Fs) o
theorem ax.frame{P:Program}{f:Nat}{args:List Value}{pre:List HP}{post:Value→List HP→Prop}(h:ax P f args pre post)(r:List HP):
  ax P f args (pre++r) fun v hs=> ∃ym,hs=ym++r∧post v ym:=by
 intro w Fs o;rw [ajs]at o;refine(h w (r++Fs) o).mono ?_;rintro e w' ⟨v,hs,he,hp,ho,nf⟩;exact⟨v,hs++r,he,⟨hs,rfl,hp⟩,by rw [ajs];exact ho,nf⟩
def HP.ex{α:Type}(F:α→HP):HP where
 wr:=true
 p w S:= ∃a,(F a).p w S
 fy w w' S h hk:=by
  obtain⟨a,ha⟩:=h;exact⟨a,(F a).fy w w' S ha hk⟩
theorem bL.ex{α:Type}{F:α→HP}(a:α)(hw:(F a).wr=true):bL [F a] [HP.ex F]:=by
 have:=bL.put (a:=[F a]) 0 (F a) (HP.ex F) rfl (fun _=>hw) fun w S h=>⟨S,fun _ h=>h,⟨a,h⟩⟩
 simpa using this
theorem ax.ex{α:Type}{F:α→HP}{P:Program}{f:Nat}{args:List Value}{R:List HP}{post:Value→List HP→Prop}(h: ∀a,ax P f args (F a::R) post):ax P f args (HP.ex F::R) post:=by
 intro w Fs ⟨S,hS⟩;obtain⟨⟨a,ha⟩,hb⟩:=hS.at_ 0 (HP.ex F) rfl;refine h a w Fs ⟨S,⟨fun i x hx=>?_,fun i j x y dI hx hy hw=>?_⟩⟩
 ·match i,hx with
  | 0,hx=>simp at hx;subst hx;exact⟨ha,hb⟩
  | i+1,hx=>exact hS.at_ (i+1) x (by simpa using hx)
 ·match i,j,dI,hx,hy with
  | 0,0,dI,_,_=>exact absurd rfl dI
  | 0,j+1,_,_,hy=>exact hS.apart 0 (j+1) (HP.ex F) y (by omega) rfl (by simpa using hy) (.inl rfl)
  | i+1,0,_,hx,_=>exact hS.apart (i+1) 0 x (HP.ex F) (by omega) (by simpa using hx) rfl (.inr rfl)
  | i+1,j+1,dI,hx,hy=>exact hS.apart (i+1) (j+1) x y dI (by simpa using hx) (by simpa using hy) hw
def cz.only(c:cz):Bool:=c.i==0&&c.a==0&&c.bo==0&&c.p==0&&c.r==0
def SV.same:SV→SV→Bool
 | .int k (.lit n),.int k' (.lit m)=>k==k'&&n==m
 | .bool (.lit a),.bool (.lit b)=>a==b
 | .str l,.str l'=>l==l'
 | .agg a,.agg b=>eL (mE a) (mE b)
 | .mu [a,b],.mu [c,d]=>SV.same a c&&SV.same b d
 | _,_=>false
def jx(a:Nat→Int)(n:Int):Nat→Int:=au (ay (fun _=>0) 1 (ag n) a) 0 n
theorem Bi(a:Nat→Int)(n:Int):cd (jx a n)=(ajw n.toNat).map fun j=>UInt8.ofNat (a j).toNat:=by
 have:=rR {av:=[a],iv:=[n]} (.aN 0) (.var 0);exact this
theorem ax.oG{P:Program}{C:Ctx}(hT:bD P C.T=true)(zV:aR P C.FT)(hm:P.follows .mixedOrders=true){f:Nat}{fd:Func}(hf:P.funcs[f]? =some fd){args:List SV}{aV:cz}{ρ:Env}(hl:fq ρ aV)(Q:Value→Prop)
  {g:F} {s:Prop} (e:ig C f args [] aV fd=g) (hv:VC P (fun v _=>Q v) g ρ (fun _=>LC.none)=s) (hs:s) (Cs:fg P C:=by exact fg.none rfl):ax P f (SV.bH ρ args) [] (fun v hs=>Q v∧hs=[]):=by
 subst e;subst hv;have:=ax.NH (ao:=fun v _=>Q v) (hp:=[]) hT zV hm hf hl hs Cs;exact this.post fun v hs h=>⟨[],bL.sub (List.nil_sublist _),h,rfl⟩
theorem bz.dup{h:HP}{hs:List HP}{w:World}(hw:h.wr=false)(ho:bz (h::hs) w):bz (h::h::hs) w:=by
 obtain⟨S,hS⟩:=ho;refine⟨fun i=>S (i - 1),⟨?_,?_⟩⟩
 ·intro i x hx;cases i with
  | zero=>
   simp at hx;subst hx;exact hS.at_ 0 _ rfl
  | succ i=>exact hS.at_ i x (by simpa using hx)
 ·intro i j x y pR hx hy ud;cases i with
  | zero=>
   cases j with
   | zero=>exact absurd rfl pR
   | succ j=>
    simp at hx;subst hx;cases j with
    | zero=>
     simp at hy;subst hy;simp [hw]at ud
    | succ j=>exact hS.apart 0 (j+1) _ y (by omega) rfl (by simpa using hy) ud
  | succ i=>
   cases j with
   | zero=>
    simp at hy;subst hy;cases i with
    | zero=>
     simp at hx;subst hx;simp [hw]at ud
    | succ i=>exact hS.apart (i+1) 0 x _ (by omega) (by simpa using hx) rfl ud
   | succ j=>exact hS.apart i j x y (by omega) (by simpa using hx) (by simpa using hy) ud
theorem ax.look{P:Program}{f:Nat}{args:List Value}{h:HP}{Q:Value→Prop}(hw:h.wr=false)(hm:ax P f args [h] fun v _=>Q v):ax P f args [h] fun v hs=>Q v∧hs=[h]:=by
 intro w Fs ho;refine(hm w (h::Fs) (bz.dup hw ho)).mono ?_;rintro e w' ⟨v,hs,rfl,hq,I9,sA⟩;exact⟨v,[h],rfl,⟨hq,rfl⟩,bz.sub I9 (List.sublist_append_right _ _),sA⟩
theorem ax.know{P:Program}{f:Nat}{args:List Value}{pre:List HP}{p Q:Value→List HP→Prop}(h:ax P f args pre p)(hq: ∀v hs,p v hs→∀(w:World) (Fs:List HP),bz (hs++Fs) w→Q v hs):
  ax P f args pre fun v hs=>p v hs∧Q v hs:=by
 intro w Fs o;refine(h w Fs o).mono ?_;rintro e w' ⟨v,hs,he,hp,ho,nf⟩;exact⟨v,hs,he,⟨hp,hq v hs hp _ _ ho⟩,ho,nf⟩
theorem NK{t s n:Nat}{v:Value}{cs:List Value}{Fs:List HP}{w:World}(h:bz (aG true t s v n cs::Fs) w): ∃e:Int,v=bQ e:=by
 obtain⟨S,hS⟩:=h;obtain⟨⟨ho,_⟩,_⟩:=hS.at_ 0 _ rfl;simp only [if_true]at ho;rcases ho.2 with⟨rfl,_⟩ | ⟨g,o,cap,cur,rfl,_⟩
 ·exact⟨0,rfl⟩
 ·exact⟨Qo g o n cap,(AL g o n cap).symm⟩
def ar(B:List HP)(h:HP):Prop:=h.wr=false∧∀(w:World) (S:Nat→Nat→Prop),Sep B S w→∃S':Nat→Prop,h.p w S'∧∀k,S' k→∃i,i<B.length∧S i k
theorem Sep.mid{A B C:List HP}{S:Nat→Nat→Prop}{w:World}(h:Sep (A++B++C) S w):Sep B (fun i=>S (A.length+i)) w:=by
 have key: ∀(i:Nat) x,B[i]? =some x→(A++B++C)[A.length+i]? =some x:=by
  intro i x hx;have hl:i<B.length:=(aiN.1 hx).1;rw [aiR (by simp;omega),aiW (by omega),Nat.add_sub_cancel_left,hx]
 exact⟨fun i x hx=>h.at_ _ x (key i x hx),fun i j x y pR hx hy hw=>h.apart _ _ x y (by omega) (key i x hx) (key j y hy) hw⟩
def oH(w0:World)(U:Nat→Prop):HP where
 wr:=false
 p w T:=(∀k,T k↔U k)∧∀k,U k→w.heap[k]? =w0.heap[k]?
 fy _ _ _ h hk:=⟨h.1,fun k hu=>(hk k ((h.1 k).2 hu)).trans (h.2 k hu)⟩
theorem ax.Hn{P:Program}{f:Nat}{args:List Value}{A B L:List HP}{Q:Value→List HP→Prop}(hm:ax P f args (A++L) Q)(hQ: ∀v hs,Q v hs→∀h∈hs,h.wr=true)(hL: ∀h∈L,ar B h):
  ax P f args (A++B) fun v hs=> ∃ym,Q v ym∧hs=ym++B:=by
 intro w Fs ⟨S,hS⟩;have gA: ∀(i:Nat) x,A[i]? =some x→(A++B++Fs)[i]? =some x:=by
  intro i x hx;have hl:i<A.length:=(aiN.1 hx).1;rw [aiR (by simp;omega),aiR hl,hx]
 have gB: ∀(i:Nat) x,B[i]? =some x→(A++B++Fs)[A.length+i]? =some x:=by
  intro i x hx;have hl:i<B.length:=(aiN.1 hx).1;rw [aiR (by simp;omega),aiW (by omega),Nat.add_sub_cancel_left,hx]
 have gR: ∀(i:Nat) x,(B++Fs)[i]? =some x→(A++B++Fs)[A.length+i]? =some x:=by
  intro i x hx;rw [ajs,aiW (by omega),Nat.add_sub_cancel_left,hx]
 have Yd:Sep B (fun i=>S (A.length+i)) w:=Sep.mid hS
 let U:Nat→Prop:=fun k=>k<w.heap.size∧∀i x,A[i]? =some x→x.wr=true→¬S i k
 have hc: ∀i:Nat,∃S':Nat→Prop,∀x,L[i]? =some x→x.p w S'∧∀k,S' k→∃j,j<B.length∧S (A.length+j) k:=by
  intro i;cases hi:L[i]? with
  | none=>exact⟨fun _=>False,fun x hx=>nomatch hx⟩
  | some y=>
   obtain⟨S',KE⟩:=(hL y (ajn hi)).2 w _ Yd;exact⟨S',fun x hx=>by cases hx;exact KE⟩
 obtain⟨S1,Ye⟩:=ajH hc;have wrL: ∀(i:Nat) x,L[i]? =some x→x.wr=false:=fun i x hx=>(hL x (ajn hx)).1
 have o1:bz (A++L++[oH w U]) w:=by
  have rl: ∀(i:Nat) x,(A++L++[oH w U])[i]? =some x→(i<A.length∧A[i]? =some x)∨(A.length≤i∧i<A.length+L.length∧L[i - A.length]? =some x)∨(i=A.length+L.length∧x=oH w U):=by
   intro i x hx;by_cases h1:i<A.length
   ·rw [aiR (by simp;omega),aiR h1]at hx;exact .inl ⟨h1,hx⟩
   ·by_cases h2:i<A.length+L.length
    ·rw [aiR (by simp;omega),aiW (by omega)]at hx;exact .inr (.inl ⟨by omega,h2,hx⟩)
    ·rw [aiW (by simp;omega)]at hx;have:i - (A++L).length=0:=by
      rcases Nat.eq_zero_or_pos (i - (A++L).length)with h | h
      ·exact h
      ·rw [ajz (by simp at h ⊢;omega)]at hx;cases hx
     rw [this]at hx;cases hx;simp at this;exact .inr (.inr ⟨by omega,rfl⟩)
  refine⟨fun i=>if i<A.length then S i else if i<A.length+L.length then S1 (i - A.length)else U,⟨?_,?_⟩⟩
  ·intro i x hx;rcases rl i x hx with⟨h,hx⟩ | ⟨h,h',hx⟩ | ⟨h,rfl⟩
   ·simp only [if_pos h];exact hS.at_ i x (gA i x hx)
   ·simp only [if_neg (ajG.2 h),if_pos h'];obtain⟨hp,hs⟩:=Ye _ x hx;refine⟨hp,fun k hk=>?_⟩;obtain⟨j,hj,hsk⟩:=hs k hk;exact(hS.at_ _ _ (gB j _ (ajk hj))).2 k hsk
   ·subst h;simp only [if_neg (show¬A.length+L.length<A.length by omega),if_neg (Nat.lt_irrefl _)];exact⟨⟨fun _=>Iff.rfl,fun _ _=>rfl⟩,fun k hk=>hk.1⟩
  ·have half: ∀i j x y,i≠j→(A++L++[oH w U])[i]? =some x→(A++L++[oH w U])[j]? =some y→x.wr=true→∀k,(if i<A.length then S i else if i<A.length+L.length then S1 (i - A.length)else U) k→¬(if j<A.length then S j else if j<A.length+L.length then S1 (j - A.length)else U) k:=by
    intro i j x y pR hx hy hw k;rcases rl i x hx with⟨h,hx⟩ | ⟨h,h',hx⟩ | ⟨h,rfl⟩
    ·simp only [if_pos h];rcases rl j y hy with⟨g,hy⟩ | ⟨g,g',hy⟩ | ⟨g,rfl⟩
     ·simp only [if_pos g];exact hS.apart i j x y pR (gA i x hx) (gA j y hy) (.inl hw) k
     ·simp only [if_neg (ajG.2 g),if_pos g'];intro hk ku;obtain⟨m,hm,hsk⟩:=(Ye _ y hy).2 k ku;exact hS.apart i (A.length+m) x _ (by omega) (gA i x hx) (gB m _ (ajk hm)) (.inl hw) k hk hsk
     ·subst g;simp only [if_neg (show¬A.length+L.length<A.length by omega),if_neg (Nat.lt_irrefl _)];exact fun hk hu=>hu.2 i x hx hw hk
    ·rw [wrL _ x hx]at hw;cases hw
    ·cases hw
   intro i j x y pR hx hy hw k hk ku;rcases hw with hw | hw
   ·exact half i j x y pR hx hy hw k hk ku
   ·exact half j i y x (Ne.symm pR) hy hx hw k ku hk
 refine(hm w _ o1).mono ?_;rintro e w' ⟨v,hs,rfl,hq,⟨S2,UT⟩,sA⟩;refine⟨v,hs++B,rfl,⟨hs,hq,rfl⟩,?_,sA⟩;have hK:=UT.at_ hs.length (oH w U) (by simp);have wr2:=hQ v hs hq;have g2: ∀(i:Nat) x,hs[i]? =some x→(hs++[oH w U])[i]? =some x:=fun i x hx=>by
  rw [aiR (aiN.1 hx).1,hx]
 have inU: ∀(j:Nat) y,(B++Fs)[j]? =some y→∀k,S (A.length+j) k→U k:=by
  intro j y hy k hk;refine⟨(hS.at_ _ y (gR j y hy)).2 k hk,fun i x hx hw ku=>?_⟩;have hl:i<A.length:=(aiN.1 hx).1;exact hS.apart i (A.length+j) x y (by omega) (gA i x hx) (gR j y hy) (.inl hw) k ku hk
 have rl: ∀(i:Nat) x,(hs++B++Fs)[i]? =some x→(i<hs.length∧hs[i]? =some x)∨(hs.length≤i∧(B++Fs)[i - hs.length]? =some x):=by
  intro i x hx;rw [ajs]at hx;by_cases h1:i<hs.length
  ·rw [aiR h1]at hx;exact .inl ⟨h1,hx⟩
  ·rw [aiW (by omega)]at hx;exact .inr ⟨by omega,hx⟩
 refine⟨fun i=>if i<hs.length then S2 i else S (A.length+(i - hs.length)),⟨?_,?_⟩⟩
 ·intro i x hx;rcases rl i x hx with⟨h,hx⟩ | ⟨h,hx⟩
  ·simp only [if_pos h];exact UT.at_ i x (g2 i x hx)
  ·simp only [if_neg (ajG.2 h)];obtain⟨hp,hb⟩:=hS.at_ _ x (gR _ x hx);refine⟨x.fy _ _ _ hp fun k hk=>?_,fun k hk=>ai1 (hb k hk) sA.size⟩;exact hK.1.2 k (inU _ x hx k hk)
 ·have half: ∀i j x y,i≠j→(hs++B++Fs)[i]? =some x→(hs++B++Fs)[j]? =some y→x.wr=true→∀k,(if i<hs.length then S2 i else S (A.length+(i - hs.length))) k→¬(if j<hs.length then S2 j else S (A.length+(j - hs.length))) k:=by
   intro i j x y pR hx hy hw k;rcases rl i x hx with⟨h,hx⟩ | ⟨h,hx⟩
   ·simp only [if_pos h];rcases rl j y hy with⟨g,hy⟩ | ⟨g,hy⟩
    ·simp only [if_pos g];exact UT.apart i j x y pR (g2 i x hx) (g2 j y hy) (.inl hw) k
    ·simp only [if_neg (ajG.2 g)];intro hk ku;exact UT.apart i hs.length x (oH w U) (by omega) (g2 i x hx) (by simp) (.inl hw) k hk ((hK.1.1 k).2 (inU _ y hy k ku))
   ·simp only [if_neg (ajG.2 h)];rcases rl j y hy with⟨g,hy⟩ | ⟨g,hy⟩
    ·simp only [if_pos g];intro hk ku;exact UT.apart j hs.length y (oH w U) (by omega) (g2 j y hy) (by simp) (.inl (wr2 y (ajn hy))) k ku ((hK.1.1 k).2 (inU _ x hx k hk))
    ·simp only [if_neg (ajG.2 g)];exact hS.apart _ _ x y (by omega) (gR _ x hx) (gR _ y hy) (.inl hw) k
  intro i j x y pR hx hy hw k hk ku;rcases hw with hw | hw
  ·exact half i j x y pR hx hy hw k hk ku
  ·exact half j i y x (Ne.symm pR) hy hx hw k ku hk
theorem ar.own{t s n:Nat}{v:Value}{cs:List Value}:ar [aG true t s v n cs] (aG false t s v n cs):=by
 refine⟨rfl,fun w S h=>?_⟩;exact⟨_,NI (h.at_ 0 _ rfl).1,fun k hk=>⟨0,by simp,hk.1⟩⟩
theorem ar.self{h:HP}(hw:h.wr=false):ar [h] h:=⟨hw,fun _ _ hS=>⟨_,(hS.at_ 0 _ rfl).1,fun _ hk=>⟨0,by simp,hk⟩⟩⟩
theorem ar.mid{A B C:List HP}{h:HP}(hb:ar B h):ar (A++B++C) h:=by
 refine⟨hb.1,fun w S hS=>?_⟩;obtain⟨S',hp,hs⟩:=hb.2 w _ (Sep.mid hS);refine⟨S',hp,fun k hk=>?_⟩;obtain⟨i,hi,hk⟩:=hs k hk;exact⟨A.length+i,by simp;omega,hk⟩
theorem ar.left{B C:List HP}{h:HP}(hb:ar B h):ar (B++C) h:=ar.mid (A:=[]) hb
theorem ar.right{A B:List HP}{h:HP}(hb:ar B h):ar (A++B) h:=by
 have:=ar.mid (A:=A) (C:=[]) hb
 rwa [List.append_nil]at this
theorem ar.map{B:List HP}{h h':HP}(hb:ar B h)(hw:h'.wr=false)(hp: ∀w S,h.p w S→∃S':Nat→Prop,h'.p w S'∧∀k,S' k→S k):ar B h':=by
 refine⟨hw,fun w S hS=>?_⟩;obtain⟨S1,h1,h2⟩:=hb.2 w S hS;obtain⟨S2,h3,h4⟩:=hp w S1 h1;exact⟨S2,h3,fun k hk=>h2 k (h4 k hk)⟩
theorem NL{w:World}{t s n lo hi:Nat}{mx:Option Nat}{v:Value}{cs:List Value}{S:Nat→Prop}(h:(aG false t s v n cs).p w S)(h1:lo≤hi)(h2:hi≤n)(h3: ∀m,mx=some m→hi≤m):
  ∃S':Nat→Prop,(aG false t s (aC s v lo hi mx) (hi - lo) ((cs.drop (lo*s)).take ((hi - lo)*s))).p w S'∧∀k,S' k→S k:=by
 obtain⟨h0,hS⟩:=h;simp only [Bool.false_eq_true,if_false]at h0;obtain⟨hlen,a,m,c,rfl,rfl,Qq,hn,hv⟩:=h0;refine⟨fun k=>(aC s (.slice a m c) lo hi mx).ownBlock=some k∧0<hi - lo,⟨?_,fun k=>by simp⟩,?_⟩
 ·simp only [Bool.false_eq_true,if_false];have Z7:(hi - lo)*s=hi*s - lo*s:=by rw [Nat.sub_mul]
  have hm1:hi*s≤m*s:=Nat.mul_le_mul_right s h2;have Xz:lo*s≤hi*s:=Nat.mul_le_mul_right s h1;refine⟨by rw [List.length_take,List.length_drop,hlen];omega,_,_,_,rfl,rfl,?_,?_,?_⟩
  ·cases mx with
   | none=>simp;omega
   | some x=>have:=h3 x rfl;simp;omega
  ·intro he;split at he
   ·have:=hn he;omega
   ·rw [Option.map_eq_none_iff]at he;have:=hn he;omega
  ·intro ad he;by_cases M9:lo=hi
   ·subst M9;refine⟨by omega,?_⟩;simp
   ·have bX:mx.getD c≠lo:=by
     cases mx with
     | none=>simp;omega
     | some x=>have:=h3 x rfl;simp;omega
    rw [if_neg bX,aiO]at he;obtain⟨Yf,rfl,rfl⟩:=he;obtain⟨g1,g2⟩:=hv Yf rfl;refine⟨fun _=>?_,fun j u hu=>?_⟩
    ·have:=g1 (by omega);unfold Addr.add;split
     ·exact this
     ·rfl
    ·rw [List.getElem?_take]at hu;split at hu
     ·rw [List.getElem?_drop]at hu;have:=g2 _ _ hu;rw [←this,dc]
     ·cases hu
 ·rintro k ⟨hk,od⟩;refine(hS k).2 ⟨?_,.inr (by omega)⟩;unfold aC at hk;simp only [Value.ownBlock]at hk ⊢;cases a with
  | none=>have:=hn rfl;omega
  | some ad=>
   have hb:(ad.add (lo*s)).block=ad.block:=by unfold Addr.add;split<;>rfl
   by_cases hc:mx.getD c=lo
   ·rw [if_pos hc]at hk;exact hk
   ·rw [if_neg hc]at hk;simp only [ajI,hb]at hk;exact hk
theorem ar.sub{B:List HP}{t s n lo hi:Nat}{mx:Option Nat}{v:Value}{cs:List Value}(hb:ar B (aG false t s v n cs))(h1:lo≤hi)(h2:hi≤n)(h3: ∀m,mx=some m→hi≤m):
  ar B (aG false t s (aC s v lo hi mx) (hi - lo) ((cs.drop (lo*s)).take ((hi - lo)*s))):=hb.map rfl fun _ _ h=>NL h h1 h2 h3
theorem ar.row{b t lo n m:Nat}{wr:Bool}{cs:List Value}(h1:lo+n≤cs.length)(h2:n≤m):
  ar [al b wr cs] (aG false t 1 (.slice (some ⟨b,lo,none⟩) n m) n ((cs.drop lo).take n)):=by
 refine⟨rfl,fun w S h=>?_⟩;obtain⟨⟨hs,ty,fz,hb,_⟩,_⟩:=h.at_ 0 _ rfl;refine⟨fun k=>k=b∧0<n,⟨?_,fun k=>?_⟩,fun k hk=>⟨0,by simp,(hs k).2 hk.1⟩⟩
 ·simp only [Bool.false_eq_true,if_false];refine⟨by rw [List.length_take,List.length_drop];omega,_,_,_,rfl,rfl,h2,by simp,?_⟩;intro ad he;cases he;refine⟨fun _=>rfl,fun j u hu=>?_⟩;rw [List.getElem?_take]at hu;split at hu
  ·rw [List.getElem?_drop]at hu;have hx:=hu;have hA:(⟨b,lo,none⟩:Addr).add j=⟨b,lo+j,none⟩:=by
    unfold Addr.add;by_cases h0:j=0
    ·rw [if_pos h0,h0];rfl
    ·rw [if_neg h0]
   rw [hA];simp only [World.cell?,hb];simpa using hx
  ·cases hu
 ·simp [Value.ownBlock,eq_comm]
def ends(k m:Nat)(hs:List HP):List HP:=hs.take k++(hs.drop k).drop ((hs.drop k).length - m)
theorem NM(k m:Nat)(hs:List HP):(ends k m hs).Sublist hs:=by
 unfold ends
 conv=>rhs;rw [←List.take_append_drop k hs]
 exact List.Sublist.append (List.Sublist.refl _) (List.drop_sublist _ _)
theorem ar.nil{B:List HP}{t s:Nat}:ar B (aG false t s (.slice none 0 0) 0 []):=by
 refine⟨rfl,fun w S _=>⟨fun _=>False,⟨?_,fun k=>by simp⟩,fun _ h=>h.elim⟩⟩;simp only [Bool.false_eq_true,if_false];refine⟨by simp,none,0,0,rfl,rfl,Nat.le_refl _,fun _=>rfl,?_⟩;intro ad h;cases h
theorem ax.kX{P:Program}{f:Nat}{args:List Value}{A B L:List HP}{Q:Value→List HP→Prop}(hm:ax P f args (A++L) fun v hs=> ∃nw,Q v nw∧hs=A++nw)(hA: ∀h∈A,h.wr=true)(hQ: ∀v nw,Q v nw→∀h∈nw,h.wr=true)(hL: ∀h∈L,ar B h):
  ax P f args (A++B) fun v hs=> ∃nw,Q v nw∧hs=A++B++nw:=by
 refine ax.post (ax.Hn hm ?_ hL) ?_
 ·rintro v hs ⟨nw,hq,rfl⟩ h hh;rcases ajt.1 hh with hh | hh
  ·exact hA h hh
  ·exact hQ v nw hq h hh
 ·rintro v hs ⟨ym,⟨nw,hq,rfl⟩,rfl⟩;refine⟨A++B++nw,bL.perm ?_,nw,hq,rfl⟩;rw [ajs,ajs];exact List.Perm.append_left A List.perm_append_comm
open Go.Proofs
section
variable {C:Ctx} {f:Nat} {fd:Func} (args:List SV) (hp:List Ck) (aV:cz) (ρ:Env) {ao:Value→List HP→Prop} {s:Prop}
theorem Uh(hf:Tryz.prog.funcs[f]? =some fd)(hv:VC aiT (fun v _=>ao v []) (ig C f args hp aV fd) ρ (fun _=>LC.none)=s)(h:s)(hT:bD aiT C.T=true:=by exact Ew)(zV:aR aiT C.FT:=by exact pZ)(hl:fq ρ aV:=by constructor<;>rfl)
  (Cs:fg aiT C:=by exact fg.none rfl):ax aiT f (SV.bH ρ args) (hp.map (Ck.den ρ)) ao:=
 ax.post (ax.kf (C:=C) hT zV Ex hf hl rfl hv h Cs) fun _ hs hq=>⟨_,bL.sub (List.nil_sublist hs),hq⟩
theorem qX(k m:Nat)(hf:Tryz.prog.funcs[f]? =some fd)(hv:VC aiT (fun v hs=>ao v (ends k m hs)) (ig C f args hp aV fd) ρ (fun _=>LC.none)=s)(h:s)(hT:bD aiT C.T=true:=by exact Ew)(zV:aR aiT C.FT:=by exact pZ)(hl:fq ρ aV:=by constructor<;>rfl)
  (Cs:fg aiT C:=by exact fg.none rfl):ax aiT f (SV.bH ρ args) (hp.map (Ck.den ρ)) ao:=
 ax.post (ax.kf (C:=C) hT zV Ex hf hl rfl hv h Cs) fun _ hs hq=>⟨_,bL.sub (NM k m hs),hq⟩
theorem Mj(k:Nat)(hf:Tryz.prog.funcs[f]? =some fd)(hv:VC aiT (fun v hs=>ao v (hs.take k)) (ig C f args hp aV fd) ρ (fun _=>LC.none)=s)(h:s)(hT:bD aiT C.T=true:=by exact Ew)(zV:aR aiT C.FT:=by exact pZ)(hl:fq ρ aV:=by constructor<;>rfl)
  (Cs:fg aiT C:=by exact fg.none rfl):ax aiT f (SV.bH ρ args) (hp.map (Ck.den ρ)) ao:=
 ax.post (ax.kf (C:=C) hT zV Ex hf hl rfl hv h Cs) fun _ hs hq=>⟨_,bL.sub (List.take_sublist k hs),hq⟩
theorem Gr(hf:Tryz.prog.funcs[f]? =some fd)(hv:VC aiT ao (ig C f args hp aV fd) ρ (fun _=>LC.none)=s)(h:s)(hT:bD aiT C.T=true:=by exact Ew)(zV:aR aiT C.FT:=by exact pZ)(hl:fq ρ aV:=by constructor<;>rfl)
  (Cs:fg aiT C:=by exact fg.none rfl):ax aiT f (SV.bH ρ args) (hp.map (Ck.den ρ)) ao:=
 ax.kf (C:=C) hT zV Ex hf hl rfl hv h Cs
end
abbrev bo(v:V1)(n:Int)(A:Nat→Int):HP:=aG true 5 1 v.v n.toNat (aW n.toNat [bd .u8 1 A])
abbrev bi(v:V1)(n:Int)(A:Nat→Int):HP:=aG false 5 1 v.v n.toNat (aW n.toNat [bd .u8 1 A])
abbrev bn(md:Bool)(v:V1)(n:Nat)(A:Nat→Int):HP:=aG md 5 1 v.v n (aW n [bd .u8 1 A])
abbrev PT:=Value→List HP→Prop
abbrev gq(f:Nat)(args:List SV)(hp:List Ck)(ρ:Env)(ao:PT):Prop:=ax aiT f (SV.bH ρ args) (hp.map (Ck.den ρ)) ao
abbrev Cl(f:Nat)(a:List Value)(L:List HP)(K:Value→List HP→List HP→Prop):Prop:= ∃post,ax aiT f a L post∧∀x hs,post x hs→K x hs L
abbrev cg(x:Int)(p:Prop):Prop:=aw (-9223372036854775808≤x) (aw (x≤9223372036854775807) p)
abbrev nq(x:Int)(p:Prop):Prop:=aw (x≤140737488355328) p
end Go.RX

namespace Go.RX.Fe
open Go.RX
def rowOf(n:Nat)(cs:List SV)(h:List Ck):List Ck:=
 match h.reverse.findIdx? (fun | .row _ _ x=>SV.pA x==n | _=>false)with
 | some i=>match h.reverse[i]? with
  | some (.row b w _)=>(h.reverse.set i (.row b w cs)).reverse
  | _=>h
 | none=>h
def w4(a:Nat):List bR:=[⟨.int .u8,4,.aN a⟩]
def NN:aL:={use:=fun _ _=>[],inc:={a:=2},val:=fun c=> .mu [.agg [.b_ .u8 255 (.aN c.a)],.agg [.b_ .i64 256 (.aN (c.a+1))]],new:=fun _ _=>[]}
def Q7:aL:={use:=fun _ _=>[],inc:={a:=1},val:=fun c=> .agg [.b_ .u8 256 (.aN c.a)],new:=fun _ _=>[]}
def bB(f:Nat):Option aL:=
 match f with
 | 113=>some NN
 | 90=>some Q7
 | _=>none
def abW(c:cz):Ck→Ck
 | .bK true _ 177 4 _ _=> .bK true c.v 177 4 (.var c.i) (w4 c.a)
 | .row b w [x,_]=> .row b w [x,.vv c.v]
 | h=>h
def UU(b:Nat)(e:E)(h:List Ck):List Ck:=
 match h.reverse.findIdx? (fun | .row _ _ [.int .i64 _]=>true | _=>false)with
 | some i=>(h.reverse.set i (.row b true [.int .i64 e])).reverse
 | none=>h
def Q8(c:cz)(h:List Ck):List Ck:=UU c.b (.var c.i) (rowOf 16 [.b_ .u8 16 (.aN c.a)] (h.map fun | .qZ _=> .qZ (c.b+1) | x=>x))
def loops(f id:Nat):Option dO:=
 match f,id with
 | 113,0=>some {inc:={i:=2,a:=2},aO:=fun c=>[(4,.int .i64 (.var c.i)),(2,.int .u8 (.var (c.i+1)))],hp:=fun c h=>(rowOf 255 [.b_ .u8 255 (.aN c.a)] (rowOf 256 [.b_ .i64 256 (.aN (c.a+1))] h))}
 | 90,0=>some {inc:={i:=1,a:=1},aO:=fun c=>[(11,.int .i64 (.var c.i))],hp:=fun c h=>rowOf 256 [.b_ .u8 256 (.aN c.a)] h}
 | 60,0=>some {pre:=[.cell 1 1 177],inc:={i:=2,a:=1,v:=1},aO:=fun c=>[(26,.int .i64 (.var c.i)),(6,.int .u8 (.var (c.i+1)))],hp:=fun c h=>h.map (abW c)}
 | 112,2=>some {pre:=[.marks],back:=[.mark,.swap 8 19],ds:=fun c _=>[.many (c.b+1)],inc:={i:=1,a:=1,b:=2},aO:=fun c=>[(8,.ptr c.b 0)],hp:=Q8}
 | _,_=>none
def Jf:List Ck:=[.row 0 true [.b_ .u8 256 (.aN 0),.vv 0],.bK true 0 177 4 (.var 0) (w4 1)]
end Go.RX.Fe

namespace Go.RX.Fg
open Go.RX Go.RX.Fe
def Cv(az:List SV)(hp:List Ck):List Nat:=
 match az with
 | .ptr b 0::_=>match findAt hp b with
  | some (j,.row _ _ [_,.vv v])=>match cG hp v with
   | some (x,_)=>[j,x]
   | none=>[]
  | _=>[]
 | _=>[]
def xm(c:cz):SV:= .agg [.b_ .u8 16 (.aN c.a)]
def fh:aL:={use:=Cv,inc:={a:=1},val:=xm,new:=fun _ h=>h}
def lV:aL:={use:=fun _ _=>[],inc:={a:=1},val:=xm,new:=fun _ h=>h}
def bB(f:Nat):Option aL:=
 match f with
 | 112=>some fh
 | 87=>some lV
 | _=>none
def cB(a:Nat):List bR:=[⟨.int .u8,1,.aN a⟩]
def Yg(a:Nat)(h:List Ck):List Ck:=
 match h.reverse.findIdx? (fun | .bK true _ 5 1 _ _=>true | _=>false)with
 | some i=>match h.reverse[i]? with
  | some (.bK md v t s n _)=>(h.reverse.set i (.bK md v t s n (cB a))).reverse
  | _=>h
 | none=>h
def loops(f id:Nat):Option dO:=
 match f,id with
 | 114,0=>some {inc:={i:=1,a:=2},aO:=fun _=>[],hp:=fun c h=>Q9 c (Fe.rowOf 16 [.b_ .u8 16 (.aN c.a)] (Yg (c.a+1) h))}
 | 62,4=>some {inc:={i:=2,a:=1},aO:=fun c=>[(13,.int .i64 (.var c.i))],hp:=fun c h=>Q_ c (Yg c.a h)}
 | _,_=>none
 where
 Yh (e:E) (h:List Ck):List Ck:=
  match h.reverse.findIdx? (fun | .row _ true [.int .i64 _]=>true | _=>false)with
  | some i=>match h.reverse[i]? with
   | some (.row b w _)=>(h.reverse.set i (.row b w [.int .i64 e])).reverse
   | _=>h
  | none=>h
 Q9 (c:cz) (h:List Ck):List Ck:=Yh (.var c.i) h
 Q_ (c:cz) (h:List Ck):List Ck:=Yh (.var (c.i+1)) h
def UW:List Ck:=Jf++[.row 1 true [.vv 1],.bK false 1 5 1 (.var 1) (cB 3)]
end Go.RX.Fg

namespace Go.RX.Fh
open Go.RX Go.RX.Fe Go.RX.Fg
def Ra:aL:={use:=fun _ _=>[],inc:={i:=1},val:=fun c=> .int .u64 (.var c.i),new:=fun _ h=>h}
def Ey:aL:={use:=fun _ _=>[],inc:={i:=2},val:=fun c=> .agg [.int .u64 (.var c.i),.int .u64 (.var (c.i+1))],new:=fun _ h=>h}
def bB(f:Nat):Option aL:=
 match f with
 | 146=>some Ra
 | 131=>some Ey
 | 133=>some Ey
 | 134=>some lV
 | _=>none
def Yi(c:cz)(h:List Ck):List Ck:=Fe.rowOf 2 [.int .u64 (.var c.i),.int .u64 (.var (c.i+1))] h
def abX(c:cz)(n:E)(h:List Ck):List Ck:=
 match h.reverse.findIdx? (fun | .bK _ _ 5 1 _ _=>true | _=>false)with
 | some i=>(h.reverse.set i (.bK false c.v 5 1 n (cB c.a))).reverse
 | none=>h
def loops(f id:Nat):Option dO:=
 match f,id with
 | 133,0=>some {inc:={i:=3},aO:=fun c=>[(6,.int .i64 (.var (c.i+2)))],hp:=Yi}
 | 111,0=>some {pre:=[.cut 1 false],back:=[.cut 1 false],inc:={i:=3,v:=1,a:=1},aO:=fun c=>[(1,.vv c.v)],hp:=fun c h=>Yi c (abX c (.var (c.i+2)) h)}
 | _,_=>none
def NO(i:Nat):SV:= .agg [.int .u64 (.var i),.int .u64 (.var (i+1))]
end Go.RX.Fh

namespace Go.RX.Fi
open Go.RX Go.RX.Fe Go.RX.Fg
def rootOf(hp:List Ck):SV→List Nat
 | .vv v=>match cG hp v with
  | some (j,_)=>[j]
  | none=>[]
 | .kg v _ _=>match cG hp v with
  | some (j,_)=>[j]
  | none=>[]
 | .sl b _ _ _ _=>match findAt hp b with
  | some (j,_)=>[j]
  | none=>[]
 | .opt _ v=>rootOf hp v
 | _=>[]
def roots(hp:List Ck)(az:List SV):List Nat:=(az.flatMap (rootOf hp)).eraseDups
def lenOf(hp:List Ck):SV→E
 | .sl _ _ _ n _=>n
 | .bU=> .lit 0
 | x=>match fB hp x with
  | some r=>r.p.len
  | none=> .lit 0
def Jg(az:List SV)(hp:List Ck):List Nat:=
 match az with
 | [p,_,.sl b _ _ _ _]=>match findAt hp b with
  | some (j,.row _ _ [x])=>Cv [p] hp++[j]++rootOf hp x
  | _=>[]
 | _=>[]
def Rb(c:cz)(h:List Ck):List Ck:=
 match h with
 | _::_:: .row _ _ [x]::_=>h++[.bK true c.v 5 1 (lenOf h x) (cB c.a)]
 | h=>h
def NP:aL:={use:=Jg,inc:={a:=1,v:=1},val:=fun c=> .mu [.vv c.v,.int .i64 (.lit 0)],new:=Rb}
def NQ:aL:={use:=fun az hp=>match az with | [_,x]=>rootOf hp x | _=>[],inc:={a:=1},val:=xm,new:=fun _ _=>[]}
def La:aL:={use:=fun _ _=>[],inc:={a:=1},val:=xm,new:=fun _ h=>h}
def UX(az:List SV)(hp:List Ck):List Nat:=
 match az with
 | [p,_,x,y]=>Cv [p] hp++roots hp [x,y]
 | _=>[]
def cC(n:E)(c:cz)(h:List Ck):List Ck:=h++[.bK true c.v 5 1 n (cB c.a)]
def Rd:aL:={use:=UX,inc:={a:=1,v:=1},val:=fun c=> .vv c.v,new:=cC (.lit 16)}
def Re(k:Int)(c:cz)(h:List Ck):List Ck:=h++[.row c.b true [.b_ .u8 256 (.aN c.a),.vv c.v],.bK true c.v 177 4 (.lit (k+28)) (w4 (c.a+1))]
def Rf:aL:={use:=fun az hp=>roots hp az,inc:={b:=1,v:=1,a:=2},val:=fun c=> .mu [.ptr c.b 0,.int .i64 (.lit 0)],new:=fun c h=>match h with | [.bK _ _ _ _ (.lit k) _]=>Re k c h | h=>h}
def Ez:aL:={use:=fun az hp=>roots hp az,inc:={bo:=1},val:=fun c=> .bool (.var c.bo),new:=fun _ h=>h}
def bB(f:Nat):Option aL:=
 match f with
 | 112=>some fh
 | 87=>some lV
 | 62=>some NP
 | 111=>some NQ
 | 88=>some La
 | 89=>some Rd
 | 60=>some Rf
 | 68=>some Ez
 | _=>none
def loops(f id:Nat):Option dO:=
 match f,id with
 | 68,0=>some {inc:={i:=2},aO:=fun c=>[(14,.int .i64 (.var c.i)),(5,.int .u8 (.var (c.i+1)))],hp:=fun _ h=>h}
 | _,_=>none
end Go.RX.Fi

namespace Go.RX.Fj
open Go.RX Go.RX.Fe Go.RX.Fg Go.RX.Fi
def EA:aL:={use:=fun _ _=>[],inc:={i:=1},val:=fun c=> .int .u8 (.var c.i),new:=fun _ _=>[]}
def Rg:aL:={use:=fun _ _=>[],inc:={i:=1},val:=fun c=> .int .i64 (.var c.i),new:=fun _ _=>[]}
def makes(n:List SV→List Ck→E):aL:={use:=fun az hp=>roots hp az,inc:={a:=1,v:=1},val:=fun c=> .vv c.v,new:=fun c h=>cC (n [] h) c h}
def tD:aL:=makes fun _ _=> .lit 16
def bB(f:Nat):Option aL:=
 match f with
 | 119=>some EA
 | 121=>some EA
 | 120=>some Rg
 | 124=>some tD
 | 126=>some tD
 | _=>none
def p5(i a:Nat)(h:List Ck):List Ck:=
 match h[i]? with
 | some (.bK md v t s n _)=>h.set i (.bK md v t s n (cB a))
 | _=>h
def p6(i v:Nat)(n:E)(a:Nat)(h:List Ck):List Ck:=
 match h[i]? with
 | some (.bK md _ t s _ _)=>h.set i (.bK md v t s n (cB a))
 | _=>h
def loops(f id:Nat):Option dO:=
 match f,id with
 | 119,0=>some {inc:={i:=3},aO:=fun c=>[(5,.int .u8 (.var c.i)),(0,.int .u8 (.var (c.i+1))),(1,.int .u8 (.var (c.i+2)))]}
 | 121,0=>some {inc:={i:=2},aO:=fun c=>[(4,.int .i64 (.var c.i)),(3,.int .u8 (.var (c.i+1)))]}
 | 98,0=>some {inc:={i:=3,a:=1},aO:=fun c=>[(4,.int .i64 (.var c.i)),(2,.int .u8 (.var (c.i+1))),(3,.int .u8 (.var (c.i+2)))],hp:=fun c h=>p5 0 c.a h}
 | 98,2=>some {inc:={i:=1,a:=1},aO:=fun c=>[(6,.int .i64 (.var c.i))],hp:=fun c h=>p5 1 c.a h}
 | 98,4=>some {inc:={i:=1,a:=1},aO:=fun c=>[(8,.int .i64 (.var c.i))],hp:=fun c h=>p5 1 c.a h}
 | 99,0=>some {back:=[.swap 6 2],inc:={i:=3,a:=1,v:=1},aO:=fun c=>[(8,.int .i64 (.var c.i)),(7,.int .u8 (.var (c.i+1))),(6,.vv c.v)],hp:=fun c h=>p6 2 c.v (.var (c.i+2)) c.a h}
 | 124,0=>some {inc:={i:=1,a:=1},aO:=fun c=>[(9,.int .i64 (.var c.i))],hp:=fun c h=>p5 3 c.a h}
 | 124,2=>some {inc:={i:=1,a:=1},aO:=fun c=>[(10,.int .i64 (.var c.i))],hp:=fun c h=>p5 3 c.a h}
 | 124,4=>some {inc:={i:=1,a:=1},aO:=fun c=>[(12,.int .i64 (.var c.i))],hp:=fun c h=>p5 4 c.a h}
 | 124,6=>some {inc:={i:=1,a:=1},aO:=fun c=>[(13,.int .i64 (.var c.i))],hp:=fun c h=>p5 3 c.a h}
 | 102,0=>some {pre:=[.slot 10 5,.slot 11 5],back:=[.swap 9 4,.swap 10 5,.swap 11 6],inc:={i:=3,v:=3,a:=3},aO:=fun c=>[(12,.int .i64 (.var c.i)),(9,.vv c.v),(10,.vv (c.v+1)),(11,.vv (c.v+2))],hp:=fun c h=>p6 4 c.v (.lit 16) c.a (p6 5 (c.v+1) (.var (c.i+1)) (c.a+1) (p6 6 (c.v+2) (.var (c.i+2)) (c.a+2) h))}
 | _,_=>none
end Go.RX.Fj
