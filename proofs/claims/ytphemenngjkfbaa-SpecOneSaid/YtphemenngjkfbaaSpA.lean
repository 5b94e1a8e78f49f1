/- SpecOne: what the functions that it reaches leave to be shown; printed by a program of ours (wip/tools). -/
import Derived.Test.YtphemenngjkfbaaProg
import Derived.Test.YtphemenngjkfbaaRxZt
import Derived.KernelRfl
import Derived.Test.YtphemenngjkfbaaSoAnn
import Derived.Test.YtphemenngjkfbaaRxZg

namespace Go.RX
open Go.Proofs
set_option maxRecDepth 100000
def TT : List TI := [
  ⟨3, .int .i64, 1, 8, [.int .i64 (.lit 0)], []⟩,
  ⟨4, .bool, 1, 1, [.bool (.lit false)], []⟩,
  ⟨5, .int .u8, 1, 1, [.int .u8 (.lit 0)], []⟩,
  ⟨22, .slice 32, 1, 24, [.nils], []⟩,
  ⟨24, .ptr 134, 1, 8, [.nilp], []⟩,
  ⟨25, .int .i64, 1, 8, [.int .i64 (.lit 0)], []⟩,
  ⟨28, .map 30 5, 1, 8, [.nilm], []⟩,
  ⟨30, .struct [(5, 0), (5, 1)], 2, 2, [.int .u8 (.lit 0), .int .u8 (.lit 0)], [(some .u8, 2)]⟩,
  ⟨32, .struct [(5, 0), (30, 1), (5, 3), (3, 4)], 5, 16, [.int .u8 (.lit 0), .int .u8 (.lit 0), .int .u8 (.lit 0), .int .u8 (.lit 0), .int .i64 (.lit 0)], [(some .u8, 4), (some .i64, 1)]⟩,
  ⟨40, .func, 1, 8, [.nilf], []⟩,
  ⟨43, .slice 5, 1, 24, [.nils], []⟩,
  ⟨45, .struct [(5, 0), (43, 1), (3, 2)], 3, 40, [.int .u8 (.lit 0), .nils, .int .i64 (.lit 0)], []⟩,
  ⟨48, .slice 30, 1, 24, [.nils], []⟩,
  ⟨52, .slice 53, 1, 24, [.nils], []⟩,
  ⟨53, .int .u16, 1, 2, [.int .u16 (.lit 0)], []⟩,
  ⟨54, .ptr 141, 1, 8, [.nilp], []⟩,
  ⟨60, .ptr 146, 1, 8, [.nilp], []⟩,
  ⟨63, .func, 1, 8, [.nilf], []⟩,
  ⟨64, .arr 8 5, 8, 8, [.seg .u8 8 (.lit 0)], [(some .u8, 8)]⟩,
  ⟨65, .slice 76, 1, 24, [.nils], []⟩,
  ⟨66, .ptr 154, 1, 8, [.nilp], []⟩,
  ⟨68, .map 72 30, 1, 8, [.nilm], []⟩,
  ⟨69, .map 72 74, 1, 8, [.nilm], []⟩,
  ⟨70, .int .u64, 1, 8, [.int .u64 (.lit 0)], []⟩,
  ⟨72, .arr 16 5, 16, 16, [.seg .u8 16 (.lit 0)], [(some .u8, 16)]⟩,
  ⟨73, .arr 32 5, 32, 32, [.seg .u8 32 (.lit 0)], [(some .u8, 32)]⟩,
  ⟨74, .arr 32 5, 32, 32, [.seg .u8 32 (.lit 0)], [(some .u8, 32)]⟩,
  ⟨76, .struct [(5, 0), (30, 1), (70, 3), (72, 4), (5, 20), (30, 21), (74, 23), (5, 55)], 56, 72, [.int .u8 (.lit 0), .int .u8 (.lit 0), .int .u8 (.lit 0), .int .u64 (.lit 0), .seg .u8 16 (.lit 0), .int .u8 (.lit 0), .int .u8 (.lit 0), .int .u8 (.lit 0), .seg .u8 32 (.lit 0), .int .u8 (.lit 0)], [(some .u8, 3), (some .u64, 1), (some .u8, 52)]⟩,
  ⟨80, .map 72 86, 1, 8, [.nilm], []⟩,
  ⟨85, .struct [(72, 0), (5, 16), (4, 17), (5, 18), (70, 19), (70, 20), (70, 21)], 22, 48, [.seg .u8 16 (.lit 0), .int .u8 (.lit 0), .bool (.lit false), .int .u8 (.lit 0), .int .u64 (.lit 0), .int .u64 (.lit 0), .int .u64 (.lit 0)], [(some .u8, 17), (none, 1), (some .u8, 1), (some .u64, 3)]⟩,
  ⟨86, .struct [], 0, 0, [], []⟩,
  ⟨93, .func, 1, 8, [.nilf], []⟩,
  ⟨98, .ptr 172, 1, 8, [.nilp], []⟩,
  ⟨100, .slice 111, 1, 24, [.nils], []⟩,
  ⟨101, .slice 85, 1, 24, [.nils], []⟩,
  ⟨103, .struct [(100, 0), (65, 1), (101, 2)], 3, 72, [.nils, .nils, .nils], []⟩,
  ⟨107, .int .u32, 1, 4, [.int .u32 (.lit 0)], []⟩,
  ⟨109, .struct [(5, 0), (72, 1), (30, 17), (5, 19), (74, 20), (107, 52), (43, 53), (5, 54)], 55, 88, [.int .u8 (.lit 0), .seg .u8 16 (.lit 0), .int .u8 (.lit 0), .int .u8 (.lit 0), .int .u8 (.lit 0), .seg .u8 32 (.lit 0), .int .u32 (.lit 0), .nils, .int .u8 (.lit 0)], []⟩,
  ⟨111, .struct [(30, 0), (109, 2)], 57, 96, [.int .u8 (.lit 0), .int .u8 (.lit 0), .int .u8 (.lit 0), .seg .u8 16 (.lit 0), .int .u8 (.lit 0), .int .u8 (.lit 0), .int .u8 (.lit 0), .seg .u8 32 (.lit 0), .int .u32 (.lit 0), .nils, .int .u8 (.lit 0)], []⟩,
  ⟨119, .slice 123, 1, 24, [.nils], []⟩,
  ⟨120, .ptr 130, 1, 8, [.nilp], []⟩,
  ⟨123, .struct [(5, 0), (5, 1), (53, 2), (5, 3)], 4, 6, [.int .u8 (.lit 0), .int .u8 (.lit 0), .int .u16 (.lit 0), .int .u8 (.lit 0)], [(some .u8, 2), (some .u16, 1), (some .u8, 1)]⟩,
  ⟨125, .arr 4 98, 4, 32, [.nilp, .nilp, .nilp, .nilp], []⟩,
  ⟨126, .slice 216, 1, 24, [.nils], []⟩,
  ⟨127, .map 30 188, 1, 8, [.nilm], []⟩,
  ⟨128, .map 30 101, 1, 8, [.nilm], []⟩,
  ⟨130, .struct [(70, 0), (125, 1), (126, 5), (53, 6), (68, 7), (69, 8), (65, 9), (127, 10), (128, 11), (4, 12)], 13, 136, [.int .u64 (.lit 0), .nilp, .nilp, .nilp, .nilp, .nils, .int .u16 (.lit 0), .nilm, .nilm, .nils, .nilm, .nilm, .bool (.lit false)], []⟩,
  ⟨134, .struct [(5, 0), (43, 1), (3, 2)], 3, 40, [.int .u8 (.lit 0), .nils, .int .i64 (.lit 0)], []⟩,
  ⟨138, .ptr 45, 1, 8, [.nilp], []⟩,
  ⟨141, .struct [(52, 0), (3, 1)], 2, 32, [.nils, .int .i64 (.lit 0)], []⟩,
  ⟨144, .slice 3, 1, 24, [.nils], []⟩,
  ⟨146, .struct [(144, 0), (3, 1)], 2, 32, [.nils, .int .i64 (.lit 0)], []⟩,
  ⟨151, .map 72 161, 1, 8, [.nilm], []⟩,
  ⟨152, .map 30 155, 1, 8, [.nilm], []⟩,
  ⟨154, .struct [(64, 0), (151, 8), (152, 9), (70, 10)], 11, 32, [.seg .u8 8 (.lit 0), .nilm, .nilm, .int .u64 (.lit 0)], []⟩,
  ⟨155, .ptr 157, 1, 8, [.nilp], []⟩,
  ⟨157, .struct [(5, 0), (72, 1), (4, 17), (5, 18), (30, 19), (70, 21), (70, 22), (80, 23), (101, 24)], 25, 72, [.int .u8 (.lit 0), .seg .u8 16 (.lit 0), .bool (.lit false), .int .u8 (.lit 0), .int .u8 (.lit 0), .int .u8 (.lit 0), .int .u64 (.lit 0), .int .u64 (.lit 0), .nilm, .nils], []⟩,
  ⟨161, .ptr 163, 1, 8, [.nilp], []⟩,
  ⟨163, .struct [(30, 0), (5, 2), (48, 3), (4, 4), (4, 5), (30, 6), (4, 8), (74, 9)], 41, 72, [.int .u8 (.lit 0), .int .u8 (.lit 0), .int .u8 (.lit 0), .nils, .bool (.lit false), .bool (.lit false), .int .u8 (.lit 0), .int .u8 (.lit 0), .bool (.lit false), .seg .u8 32 (.lit 0)], []⟩,
  ⟨168, .ptr 205, 1, 8, [.nilp], []⟩,
  ⟨170, .ptr 208, 1, 8, [.nilp], []⟩,
  ⟨172, .struct [(30, 0), (64, 2), (168, 10), (5, 11), (72, 12), (4, 28), (5, 29), (30, 30), (74, 32), (74, 64), (74, 96), (24, 128), (170, 129), (70, 130), (70, 131), (70, 132), (70, 133), (70, 134), (107, 135)], 136, 208, [.int .u8 (.lit 0), .int .u8 (.lit 0), .seg .u8 8 (.lit 0), .nilp, .int .u8 (.lit 0), .seg .u8 16 (.lit 0), .bool (.lit false), .int .u8 (.lit 0), .int .u8 (.lit 0), .int .u8 (.lit 0), .seg .u8 32 (.lit 0), .seg .u8 32 (.lit 0), .seg .u8 32 (.lit 0), .nilp, .nilp, .int .u64 (.lit 0), .int .u64 (.lit 0), .int .u64 (.lit 0), .int .u64 (.lit 0), .int .u64 (.lit 0), .int .u32 (.lit 0)], []⟩,
  ⟨177, .ptr 103, 1, 8, [.nilp], []⟩,
  ⟨188, .map 72 5, 1, 8, [.nilm], []⟩,
  ⟨189, .int .u64, 1, 8, [.int .u64 (.lit 0)], []⟩,
  ⟨198, .slice 43, 1, 24, [.nils], []⟩,
  ⟨199, .ptr 227, 1, 8, [.nilp], []⟩,
  ⟨203, .slice 72, 1, 24, [.nils], []⟩,
  ⟨205, .struct [(203, 0), (3, 1)], 2, 32, [.nils, .int .i64 (.lit 0)], []⟩,
  ⟨208, .struct [(48, 0), (3, 1)], 2, 32, [.nils, .int .i64 (.lit 0)], []⟩,
  ⟨216, .struct [(30, 0), (111, 2)], 59, 104, [.int .u8 (.lit 0), .int .u8 (.lit 0), .int .u8 (.lit 0), .int .u8 (.lit 0), .int .u8 (.lit 0), .seg .u8 16 (.lit 0), .int .u8 (.lit 0), .int .u8 (.lit 0), .int .u8 (.lit 0), .seg .u8 32 (.lit 0), .int .u32 (.lit 0), .nils, .int .u8 (.lit 0)], []⟩,
  ⟨219, .slice 107, 1, 24, [.nils], []⟩,
  ⟨221, .slice 70, 1, 24, [.nils], []⟩,
  ⟨223, .arr 3 3, 3, 24, [.seg .i64 3 (.lit 0)], [(some .i64, 3)]⟩,
  ⟨225, .struct [(223, 0), (223, 3), (223, 6), (223, 9)], 12, 96, [.seg .i64 3 (.lit 0), .seg .i64 3 (.lit 0), .seg .i64 3 (.lit 0), .seg .i64 3 (.lit 0)], [(some .i64, 12)]⟩,
  ⟨227, .struct [(219, 0), (219, 1), (3, 2), (225, 3)], 15, 152, [.nils, .nils, .int .i64 (.lit 0), .seg .i64 3 (.lit 0), .seg .i64 3 (.lit 0), .seg .i64 3 (.lit 0), .seg .i64 3 (.lit 0)], []⟩,
  ⟨237, .arr 8 107, 8, 32, [.seg .u32 8 (.lit 0)], [(some .u32, 8)]⟩]
theorem okT : checkT Try.prog TT = true := by kernel_rfl
noncomputable def FT : List (Nat × Func) := [(2, Try.f2), (3, Try.f3), (4, Try.f4), (5, Try.f5), (6, Try.f6), (7, Try.f7), (8, Try.f8), (9, Try.f9), (10, Try.f10), (11, Try.f11), (12, Try.f12), (13, Try.f13), (14, Try.f14), (15, Try.f15), (16, Try.f16), (17, Try.f17), (18, Try.f18), (19, Try.f19), (20, Try.f20), (21, Try.f21), (22, Try.f22), (23, Try.f23), (24, Try.f24), (25, Try.f25), (26, Try.f26), (27, Try.f27), (28, Try.f28), (29, Try.f29), (30, Try.f30), (31, Try.f31), (32, Try.f32), (33, Try.f33), (34, Try.f34), (35, Try.f35), (36, Try.f36), (37, Try.f37), (38, Try.f38), (39, Try.f39), (40, Try.f40), (41, Try.f41), (42, Try.f42), (43, Try.f43), (44, Try.f44), (45, Try.f45), (46, Try.f46), (47, Try.f47), (48, Try.f48), (49, Try.f49), (50, Try.f50), (51, Try.f51), (52, Try.f52), (53, Try.f53), (54, Try.f54), (55, Try.f55), (56, Try.f56), (57, Try.f57), (58, Try.f58), (59, Try.f59), (60, Try.f60), (61, Try.f61), (62, Try.f62), (63, Try.f63), (64, Try.f64), (65, Try.f65), (66, Try.f66), (67, Try.f67), (68, Try.f68), (69, Try.f69), (70, Try.f70), (71, Try.f71), (72, Try.f72), (73, Try.f73), (74, Try.f74), (75, Try.f75), (76, Try.f76), (77, Try.f77), (78, Try.f78), (79, Try.f79), (80, Try.f80), (81, Try.f81), (82, Try.f82), (83, Try.f83), (84, Try.f84), (85, Try.f85), (86, Try.f86), (87, Try.f87), (88, Try.f88), (89, Try.f89), (90, Try.f90), (91, Try.f91), (92, Try.f92), (93, Try.f93), (94, Try.f94), (95, Try.f95), (96, Try.f96), (97, Try.f97), (98, Try.f98), (99, Try.f99), (100, Try.f100), (101, Try.f101), (102, Try.f102), (103, Try.f103), (104, Try.f104), (105, Try.f105), (106, Try.f106), (107, Try.f107), (108, Try.f108), (109, Try.f109), (110, Try.f110), (111, Try.f111), (112, Try.f112), (113, Try.f113), (114, Try.f114), (115, Try.f115), (116, Try.f116), (117, Try.f117), (118, Try.f118), (119, Try.f119), (120, Try.f120), (121, Try.f121), (122, Try.f122), (123, Try.f123), (124, Try.f124), (125, Try.f125), (126, Try.f126), (127, Try.f127), (128, Try.f128), (129, Try.f129), (130, Try.f130), (131, Try.f131), (132, Try.f132), (133, Try.f133), (134, Try.f134), (135, Try.f135), (137, Try.f137), (138, Try.f138), (139, Try.f139), (140, Try.f140), (141, Try.f141), (142, Try.f142), (143, Try.f143)]
theorem okFT : FTOk 
  Try.prog FT :=
  FTOk.cons Try.func2 (by kernel_rfl) <|
  FTOk.cons Try.func3 (by kernel_rfl) <|
  FTOk.cons Try.func4 (by kernel_rfl) <|
  FTOk.cons Try.func5 (by kernel_rfl) <|
  FTOk.cons Try.func6 (by kernel_rfl) <|
  FTOk.cons Try.func7 (by kernel_rfl) <|
  FTOk.cons Try.func8 (by kernel_rfl) <|
  FTOk.cons Try.func9 (by kernel_rfl) <|
  FTOk.cons Try.func10 (by kernel_rfl) <|
  FTOk.cons Try.func11 (by kernel_rfl) <|
  FTOk.cons Try.func12 (by kernel_rfl) <|
  FTOk.cons Try.func13 (by kernel_rfl) <|
  FTOk.cons Try.func14 (by kernel_rfl) <|
  FTOk.cons Try.func15 (by kernel_rfl) <|
  FTOk.cons Try.func16 (by kernel_rfl) <|
  FTOk.cons Try.func17 (by kernel_rfl) <|
  FTOk.cons Try.func18 (by kernel_rfl) <|
  FTOk.cons Try.func19 (by kernel_rfl) <|
  FTOk.cons Try.func20 (by kernel_rfl) <|
  FTOk.cons Try.func21 (by kernel_rfl) <|
  FTOk.cons Try.func22 (by kernel_rfl) <|
  FTOk.cons Try.func23 (by kernel_rfl) <|
  FTOk.cons Try.func24 (by kernel_rfl) <|
  FTOk.cons Try.func25 (by kernel_rfl) <|
  FTOk.cons Try.func26 (by kernel_rfl) <|
  FTOk.cons Try.func27 (by kernel_rfl) <|
  FTOk.cons Try.func28 (by kernel_rfl) <|
  FTOk.cons Try.func29 (by kernel_rfl) <|
  FTOk.cons Try.func30 (by kernel_rfl) <|
  FTOk.cons Try.func31 (by kernel_rfl) <|
  FTOk.cons Try.func32 (by kernel_rfl) <|
  FTOk.cons Try.func33 (by kernel_rfl) <|
  FTOk.cons Try.func34 (by kernel_rfl) <|
  FTOk.cons Try.func35 (by kernel_rfl) <|
  FTOk.cons Try.func36 (by kernel_rfl) <|
  FTOk.cons Try.func37 (by kernel_rfl) <|
  FTOk.cons Try.func38 (by kernel_rfl) <|
  FTOk.cons Try.func39 (by kernel_rfl) <|
  FTOk.cons Try.func40 (by kernel_rfl) <|
  FTOk.cons Try.func41 (by kernel_rfl) <|
  FTOk.cons Try.func42 (by kernel_rfl) <|
  FTOk.cons Try.func43 (by kernel_rfl) <|
  FTOk.cons Try.func44 (by kernel_rfl) <|
  FTOk.cons Try.func45 (by kernel_rfl) <|
  FTOk.cons Try.func46 (by kernel_rfl) <|
  FTOk.cons Try.func47 (by kernel_rfl) <|
  FTOk.cons Try.func48 (by kernel_rfl) <|
  FTOk.cons Try.func49 (by kernel_rfl) <|
  FTOk.cons Try.func50 (by kernel_rfl) <|
  FTOk.cons Try.func51 (by kernel_rfl) <|
  FTOk.cons Try.func52 (by kernel_rfl) <|
  FTOk.cons Try.func53 (by kernel_rfl) <|
  FTOk.cons Try.func54 (by kernel_rfl) <|
  FTOk.cons Try.func55 (by kernel_rfl) <|
  FTOk.cons Try.func56 (by kernel_rfl) <|
  FTOk.cons Try.func57 (by kernel_rfl) <|
  FTOk.cons Try.func58 (by kernel_rfl) <|
  FTOk.cons Try.func59 (by kernel_rfl) <|
  FTOk.cons Try.func60 (by kernel_rfl) <|
  FTOk.cons Try.func61 (by kernel_rfl) <|
  FTOk.cons Try.func62 (by kernel_rfl) <|
  FTOk.cons Try.func63 (by kernel_rfl) <|
  FTOk.cons Try.func64 (by kernel_rfl) <|
  FTOk.cons Try.func65 (by kernel_rfl) <|
  FTOk.cons Try.func66 (by kernel_rfl) <|
  FTOk.cons Try.func67 (by kernel_rfl) <|
  FTOk.cons Try.func68 (by kernel_rfl) <|
  FTOk.cons Try.func69 (by kernel_rfl) <|
  FTOk.cons Try.func70 (by kernel_rfl) <|
  FTOk.cons Try.func71 (by kernel_rfl) <|
  FTOk.cons Try.func72 (by kernel_rfl) <|
  FTOk.cons Try.func73 (by kernel_rfl) <|
  FTOk.cons Try.func74 (by kernel_rfl) <|
  FTOk.cons Try.func75 (by kernel_rfl) <|
  FTOk.cons Try.func76 (by kernel_rfl) <|
  FTOk.cons Try.func77 (by kernel_rfl) <|
  FTOk.cons Try.func78 (by kernel_rfl) <|
  FTOk.cons Try.func79 (by kernel_rfl) <|
  FTOk.cons Try.func80 (by kernel_rfl) <|
  FTOk.cons Try.func81 (by kernel_rfl) <|
  FTOk.cons Try.func82 (by kernel_rfl) <|
  FTOk.cons Try.func83 (by kernel_rfl) <|
  FTOk.cons Try.func84 (by kernel_rfl) <|
  FTOk.cons Try.func85 (by kernel_rfl) <|
  FTOk.cons Try.func86 (by kernel_rfl) <|
  FTOk.cons Try.func87 (by kernel_rfl) <|
  FTOk.cons Try.func88 (by kernel_rfl) <|
  FTOk.cons Try.func89 (by kernel_rfl) <|
  FTOk.cons Try.func90 (by kernel_rfl) <|
  FTOk.cons Try.func91 (by kernel_rfl) <|
  FTOk.cons Try.func92 (by kernel_rfl) <|
  FTOk.cons Try.func93 (by kernel_rfl) <|
  FTOk.cons Try.func94 (by kernel_rfl) <|
  FTOk.cons Try.func95 (by kernel_rfl) <|
  FTOk.cons Try.func96 (by kernel_rfl) <|
  FTOk.cons Try.func97 (by kernel_rfl) <|
  FTOk.cons Try.func98 (by kernel_rfl) <|
  FTOk.cons Try.func99 (by kernel_rfl) <|
  FTOk.cons Try.func100 (by kernel_rfl) <|
  FTOk.cons Try.func101 (by kernel_rfl) <|
  FTOk.cons Try.func102 (by kernel_rfl) <|
  FTOk.cons Try.func103 (by kernel_rfl) <|
  FTOk.cons Try.func104 (by kernel_rfl) <|
  FTOk.cons Try.func105 (by kernel_rfl) <|
  FTOk.cons Try.func106 (by kernel_rfl) <|
  FTOk.cons Try.func107 (by kernel_rfl) <|
  FTOk.cons Try.func108 (by kernel_rfl) <|
  FTOk.cons Try.func109 (by kernel_rfl) <|
  FTOk.cons Try.func110 (by kernel_rfl) <|
  FTOk.cons Try.func111 (by kernel_rfl) <|
  FTOk.cons Try.func112 (by kernel_rfl) <|
  FTOk.cons Try.func113 (by kernel_rfl) <|
  FTOk.cons Try.func114 (by kernel_rfl) <|
  FTOk.cons Try.func115 (by kernel_rfl) <|
  FTOk.cons Try.func116 (by kernel_rfl) <|
  FTOk.cons Try.func117 (by kernel_rfl) <|
  FTOk.cons Try.func118 (by kernel_rfl) <|
  FTOk.cons Try.func119 (by kernel_rfl) <|
  FTOk.cons Try.func120 (by kernel_rfl) <|
  FTOk.cons Try.func121 (by kernel_rfl) <|
  FTOk.cons Try.func122 (by kernel_rfl) <|
  FTOk.cons Try.func123 (by kernel_rfl) <|
  FTOk.cons Try.func124 (by kernel_rfl) <|
  FTOk.cons Try.func125 (by kernel_rfl) <|
  FTOk.cons Try.func126 (by kernel_rfl) <|
  FTOk.cons Try.func127 (by kernel_rfl) <|
  FTOk.cons Try.func128 (by kernel_rfl) <|
  FTOk.cons Try.func129 (by kernel_rfl) <|
  FTOk.cons Try.func130 (by kernel_rfl) <|
  FTOk.cons Try.func131 (by kernel_rfl) <|
  FTOk.cons Try.func132 (by kernel_rfl) <|
  FTOk.cons Try.func133 (by kernel_rfl) <|
  FTOk.cons Try.func134 (by kernel_rfl) <|
  FTOk.cons Try.func135 (by kernel_rfl) <|
  FTOk.cons Try.func137 (by kernel_rfl) <|
  FTOk.cons Try.func138 (by kernel_rfl) <|
  FTOk.cons Try.func139 (by kernel_rfl) <|
  FTOk.cons Try.func140 (by kernel_rfl) <|
  FTOk.cons Try.func141 (by kernel_rfl) <|
  FTOk.cons Try.func142 (by kernel_rfl) <|
  FTOk.cons Try.func143 (by kernel_rfl) <|
  FTOk.nil
theorem okM : Try.prog.follows .mixedOrders = true := by kernel_rfl
end Go.RX

namespace Go.RX.So
open Go.RX Go.Proofs
noncomputable def cx : Ctx := { T := TT, FT := FT, loops := loops, calls := calls }
end Go.RX.So

namespace Go.RX.So
open Go.RX Go.Proofs
set_option maxRecDepth 100000
noncomputable def fm_stepN : F := runF cx 36 ([Go.RX.SV.ptr 0 0, Go.RX.SV.agg [Go.RX.SV.int (Go.IntKind.u8) (Go.RX.E.var 0), Go.RX.SV.int (Go.IntKind.u8) (Go.RX.E.var 1), Go.RX.SV.int (Go.IntKind.u8) (Go.RX.E.var 2), Go.RX.SV.int (Go.IntKind.u64) (Go.RX.E.var 3), Go.RX.SV.seg (Go.IntKind.u8) 16 (Go.RX.E.avar 0), Go.RX.SV.int (Go.IntKind.u8) (Go.RX.E.var 4), Go.RX.SV.int (Go.IntKind.u8) (Go.RX.E.var 5), Go.RX.SV.int (Go.IntKind.u8) (Go.RX.E.var 6), Go.RX.SV.seg (Go.IntKind.u8) 32 (Go.RX.E.avar 1), Go.RX.SV.int (Go.IntKind.u8) (Go.RX.E.var 7)]]) ([Go.RX.Ck.row 0 true [Go.RX.SV.seg (Go.IntKind.u8) 8 (Go.RX.E.avar 2), Go.RX.SV.mp 1, Go.RX.SV.mp 2, Go.RX.SV.int (Go.IntKind.u64) (Go.RX.E.var 8)], Go.RX.Ck.map 1 [Go.IntKind.u8, Go.IntKind.u8, Go.IntKind.u8, Go.IntKind.u8, Go.IntKind.u8, Go.IntKind.u8, Go.IntKind.u8, Go.IntKind.u8, Go.IntKind.u8, Go.IntKind.u8, Go.IntKind.u8, Go.IntKind.u8, Go.IntKind.u8, Go.IntKind.u8, Go.IntKind.u8, Go.IntKind.u8] true false [Go.RX.SV.nilp] (Go.RX.E.avar 15) [{ ck := Go.RX.CK.ptr, w := 1, a := Go.RX.E.avar 16 }], Go.RX.Ck.map 2 [Go.IntKind.u8, Go.IntKind.u8] true false [Go.RX.SV.nilp] (Go.RX.E.upd (Go.RX.E.avar 17) (Go.RX.E.kc 2 (Go.RX.E.upd (Go.RX.E.upd (Go.RX.E.lit 0) (Go.RX.E.lit 0) (Go.RX.E.var 1)) (Go.RX.E.lit 1) (Go.RX.E.var 2))) (Go.RX.E.lit 0)) [{ ck := Go.RX.CK.ptr, w := 1, a := Go.RX.E.upd (Go.RX.E.avar 18) (Go.RX.E.kc 2 (Go.RX.E.upd (Go.RX.E.upd (Go.RX.E.lit 0) (Go.RX.E.lit 0) (Go.RX.E.var 1)) (Go.RX.E.lit 1) (Go.RX.E.var 2))) (Go.RX.E.lit 0) }]]) ({ b := 6, v := 2, i := 23, a := 19, bo := 4, p := 0, r := 0 }) Try.f36
def st_stepN (_ : Program) (Post : Value → List HP → Prop) (x0 : Int) (x1 : Int) (x2 : Int) (x3 : Int) (x4 : Int) (x5 : Int) (x6 : Int) (x7 : Int) (x8 : Int) (_ : Int) (_ : Int) (_ : Int) (_ : Int) (_ : Int) (_ : Int) (_ : Int) (_ : Int) (_ : Int) (_ : Int) (_ : Int) (_ : Int) (_ : Int) (_ : Int) (A0 : Nat → Int) (A1 : Nat → Int) (A2 : Nat → Int) (_ : Nat → Int) (_ : Nat → Int) (_ : Nat → Int) (_ : Nat → Int) (_ : Nat → Int) (_ : Nat → Int) (_ : Nat → Int) (_ : Nat → Int) (_ : Nat → Int) (_ : Nat → Int) (_ : Nat → Int) (_ : Nat → Int) (A15 : Nat → Int) (A16 : Nat → Int) (A17 : Nat → Int) (A18 : Nat → Int) (_ : Bool) (_ : Bool) (_ : Bool) (_ : Bool) (_ : V1) (_ : V1) (b0 : Nat) (b1 : Nat) (b2 : Nat) (_ : Nat) (_ : Nat) (_ : Nat) : Prop :=
∀ b6 : Nat, Post (.int .i64 6) [rowHP b0 true (segCells .u8 8 A2 ++ ([.map (some b1), .map (some b2), .int .u64 x8])), mapHP b1 [.u8, .u8, .u8, .u8, .u8, .u8, .u8, .u8, .u8, .u8, .u8, .u8, .u8, .u8, .u8, .u8] true false ([.pointer none]) (fun i => !(A15 i == 0)) (mcols [colP 1 A16]), mapHP b2 [.u8, .u8] true false ([.pointer none]) (fun i => !((updF A17 (Int.toNat ((kcode ((List.range 2).map (updF (updF (fun _ => 0) 0 x1) 1 x2)) : Nat) : Int)) 0) i == 0)) (mcols [colP 1 (updF A18 (Int.toNat ((kcode ((List.range 2).map (updF (updF (fun _ => 0) 0 x1) 1 x2)) : Nat) : Int)) 0)]), rowHP b6 true (.int .u8 x0 :: (.int .u8 x1 :: (.int .u8 x2 :: (.int .u64 x3 :: (segCells .u8 16 A0 ++ (.int .u8 x4 :: (.int .u8 x5 :: (.int .u8 x6 :: (segCells .u8 32 A1 ++ ([.int .u8 x7]))))))))))]
theorem vc_stepN (P : Program) (Post : Value → List HP → Prop) (x0 : Int) (x1 : Int) (x2 : Int) (x3 : Int) (x4 : Int) (x5 : Int) (x6 : Int) (x7 : Int) (x8 : Int) (x9 : Int) (x10 : Int) (x11 : Int) (x12 : Int) (x13 : Int) (x14 : Int) (x15 : Int) (x16 : Int) (x17 : Int) (x18 : Int) (x19 : Int) (x20 : Int) (x21 : Int) (x22 : Int) (A0 : Nat → Int) (A1 : Nat → Int) (A2 : Nat → Int) (A3 : Nat → Int) (A4 : Nat → Int) (A5 : Nat → Int) (A6 : Nat → Int) (A7 : Nat → Int) (A8 : Nat → Int) (A9 : Nat → Int) (A10 : Nat → Int) (A11 : Nat → Int) (A12 : Nat → Int) (A13 : Nat → Int) (A14 : Nat → Int) (A15 : Nat → Int) (A16 : Nat → Int) (A17 : Nat → Int) (A18 : Nat → Int) (q0 : Bool) (q1 : Bool) (q2 : Bool) (q3 : Bool) (v0 : V1) (v1 : V1) (b0 : Nat) (b1 : Nat) (b2 : Nat) (b3 : Nat) (b4 : Nat) (b5 : Nat) (L : Nat → LC) : VC P Post fm_stepN { iv := [x0, x1, x2, x3, x4, x5, x6, x7, x8, x9, x10, x11, x12, x13, x14, x15, x16, x17, x18, x19, x20, x21, x22], av := [A0, A1, A2, A3, A4, A5, A6, A7, A8, A9, A10, A11, A12, A13, A14, A15, A16, A17, A18], bo := [q0, q1, q2, q3], bv := [b0, b1, b2, b3, b4, b5], vv := [v0, v1] } L = st_stepN P Post x0 x1 x2 x3 x4 x5 x6 x7 x8 x9 x10 x11 x12 x13 x14 x15 x16 x17 x18 x19 x20 x21 x22 A0 A1 A2 A3 A4 A5 A6 A7 A8 A9 A10 A11 A12 A13 A14 A15 A16 A17 A18 q0 q1 q2 q3 v0 v1 b0 b1 b2 b3 b4 b5 := by kernel_rfl
theorem run_stepN : runF cx 36 ([Go.RX.SV.ptr 0 0, Go.RX.SV.agg [Go.RX.SV.int (Go.IntKind.u8) (Go.RX.E.var 0), Go.RX.SV.int (Go.IntKind.u8) (Go.RX.E.var 1), Go.RX.SV.int (Go.IntKind.u8) (Go.RX.E.var 2), Go.RX.SV.int (Go.IntKind.u64) (Go.RX.E.var 3), Go.RX.SV.seg (Go.IntKind.u8) 16 (Go.RX.E.avar 0), Go.RX.SV.int (Go.IntKind.u8) (Go.RX.E.var 4), Go.RX.SV.int (Go.IntKind.u8) (Go.RX.E.var 5), Go.RX.SV.int (Go.IntKind.u8) (Go.RX.E.var 6), Go.RX.SV.seg (Go.IntKind.u8) 32 (Go.RX.E.avar 1), Go.RX.SV.int (Go.IntKind.u8) (Go.RX.E.var 7)]]) ([Go.RX.Ck.row 0 true [Go.RX.SV.seg (Go.IntKind.u8) 8 (Go.RX.E.avar 2), Go.RX.SV.mp 1, Go.RX.SV.mp 2, Go.RX.SV.int (Go.IntKind.u64) (Go.RX.E.var 8)], Go.RX.Ck.map 1 [Go.IntKind.u8, Go.IntKind.u8, Go.IntKind.u8, Go.IntKind.u8, Go.IntKind.u8, Go.IntKind.u8, Go.IntKind.u8, Go.IntKind.u8, Go.IntKind.u8, Go.IntKind.u8, Go.IntKind.u8, Go.IntKind.u8, Go.IntKind.u8, Go.IntKind.u8, Go.IntKind.u8, Go.IntKind.u8] true false [Go.RX.SV.nilp] (Go.RX.E.avar 15) [{ ck := Go.RX.CK.ptr, w := 1, a := Go.RX.E.avar 16 }], Go.RX.Ck.map 2 [Go.IntKind.u8, Go.IntKind.u8] true false [Go.RX.SV.nilp] (Go.RX.E.upd (Go.RX.E.avar 17) (Go.RX.E.kc 2 (Go.RX.E.upd (Go.RX.E.upd (Go.RX.E.lit 0) (Go.RX.E.lit 0) (Go.RX.E.var 1)) (Go.RX.E.lit 1) (Go.RX.E.var 2))) (Go.RX.E.lit 0)) [{ ck := Go.RX.CK.ptr, w := 1, a := Go.RX.E.upd (Go.RX.E.avar 18) (Go.RX.E.kc 2 (Go.RX.E.upd (Go.RX.E.upd (Go.RX.E.lit 0) (Go.RX.E.lit 0) (Go.RX.E.var 1)) (Go.RX.E.lit 1) (Go.RX.E.var 2))) (Go.RX.E.lit 0) }]]) ({ b := 6, v := 2, i := 23, a := 19, bo := 4, p := 0, r := 0 }) Try.f36 = fm_stepN := rfl
noncomputable def fm_step0 : F := runF cx 36 ([Go.RX.SV.ptr 0 0, Go.RX.SV.agg [Go.RX.SV.int (Go.IntKind.u8) (Go.RX.E.var 0), Go.RX.SV.int (Go.IntKind.u8) (Go.RX.E.var 1), Go.RX.SV.int (Go.IntKind.u8) (Go.RX.E.var 2), Go.RX.SV.int (Go.IntKind.u64) (Go.RX.E.var 3), Go.RX.SV.seg (Go.IntKind.u8) 16 (Go.RX.E.avar 0), Go.RX.SV.int (Go.IntKind.u8) (Go.RX.E.var 4), Go.RX.SV.int (Go.IntKind.u8) (Go.RX.E.var 5), Go.RX.SV.int (Go.IntKind.u8) (Go.RX.E.var 6), Go.RX.SV.seg (Go.IntKind.u8) 32 (Go.RX.E.avar 1), Go.RX.SV.int (Go.IntKind.u8) (Go.RX.E.var 7)]]) ([Go.RX.Ck.row 0 true [Go.RX.SV.seg (Go.IntKind.u8) 8 (Go.RX.E.avar 2), Go.RX.SV.mp 1, Go.RX.SV.mp 2, Go.RX.SV.int (Go.IntKind.u64) (Go.RX.E.var 8)], Go.RX.Ck.map 1 [Go.IntKind.u8, Go.IntKind.u8, Go.IntKind.u8, Go.IntKind.u8, Go.IntKind.u8, Go.IntKind.u8, Go.IntKind.u8, Go.IntKind.u8, Go.IntKind.u8, Go.IntKind.u8, Go.IntKind.u8, Go.IntKind.u8, Go.IntKind.u8, Go.IntKind.u8, Go.IntKind.u8, Go.IntKind.u8] true false [Go.RX.SV.nilp] (Go.RX.E.upd (Go.RX.E.avar 15) (Go.RX.E.kc 16 (Go.RX.E.avar 0)) (Go.RX.E.lit 0)) [{ ck := Go.RX.CK.ptr, w := 1, a := Go.RX.E.upd (Go.RX.E.avar 16) (Go.RX.E.kc 16 (Go.RX.E.avar 0)) (Go.RX.E.lit 0) }], Go.RX.Ck.map 2 [Go.IntKind.u8, Go.IntKind.u8] true false [Go.RX.SV.nilp] (Go.RX.E.upd (Go.RX.E.avar 17) (Go.RX.E.kc 2 (Go.RX.E.upd (Go.RX.E.upd (Go.RX.E.lit 0) (Go.RX.E.lit 0) (Go.RX.E.var 1)) (Go.RX.E.lit 1) (Go.RX.E.var 2))) (Go.RX.E.lit 1)) [{ ck := Go.RX.CK.ptr, w := 1, a := Go.RX.E.upd (Go.RX.E.avar 18) (Go.RX.E.kc 2 (Go.RX.E.upd (Go.RX.E.upd (Go.RX.E.lit 0) (Go.RX.E.lit 0) (Go.RX.E.var 1)) (Go.RX.E.lit 1) (Go.RX.E.var 2))) (Go.RX.E.blk 3) }], Go.RX.Ck.row 3 true [Go.RX.SV.int (Go.IntKind.u8) (Go.RX.E.var 9), Go.RX.SV.seg (Go.IntKind.u8) 16 (Go.RX.E.avar 3), Go.RX.SV.bool (Go.RX.BE.nz (Go.RX.E.var 22)), Go.RX.SV.int (Go.IntKind.u8) (Go.RX.E.var 10), Go.RX.SV.int (Go.IntKind.u8) (Go.RX.E.var 11), Go.RX.SV.int (Go.IntKind.u8) (Go.RX.E.var 12), Go.RX.SV.int (Go.IntKind.u64) (Go.RX.E.var 13), Go.RX.SV.int (Go.IntKind.u64) (Go.RX.E.var 14), Go.RX.SV.mp 4, Go.RX.SV.vv 0], Go.RX.Ck.map 4 [Go.IntKind.u8, Go.IntKind.u8, Go.IntKind.u8, Go.IntKind.u8, Go.IntKind.u8, Go.IntKind.u8, Go.IntKind.u8, Go.IntKind.u8, Go.IntKind.u8, Go.IntKind.u8, Go.IntKind.u8, Go.IntKind.u8, Go.IntKind.u8, Go.IntKind.u8, Go.IntKind.u8, Go.IntKind.u8] true true [] (Go.RX.E.avar 4) [], Go.RX.Ck.sli true 0 85 22 (Go.RX.E.var 15) [{ ck := Go.RX.CK.int (Go.IntKind.u8), w := 16, a := Go.RX.E.avar 5 }, { ck := Go.RX.CK.int (Go.IntKind.u8), w := 1, a := Go.RX.E.avar 6 }, { ck := Go.RX.CK.bool, w := 1, a := Go.RX.E.avar 7 }, { ck := Go.RX.CK.int (Go.IntKind.u8), w := 1, a := Go.RX.E.avar 8 }, { ck := Go.RX.CK.int (Go.IntKind.u64), w := 1, a := Go.RX.E.avar 9 }, { ck := Go.RX.CK.int (Go.IntKind.u64), w := 1, a := Go.RX.E.avar 10 }, { ck := Go.RX.CK.int (Go.IntKind.u64), w := 1, a := Go.RX.E.avar 11 }]]) ({ b := 6, v := 2, i := 23, a := 19, bo := 4, p := 0, r := 0 }) Try.f36
def st_step0 (_ : Program) (Post : Value → List HP → Prop) (x0 : Int) (x1 : Int) (x2 : Int) (x3 : Int) (x4 : Int) (x5 : Int) (x6 : Int) (x7 : Int) (x8 : Int) (x9 : Int) (x10 : Int) (x11 : Int) (x12 : Int) (x13 : Int) (x14 : Int) (x15 : Int) (_ : Int) (_ : Int) (_ : Int) (_ : Int) (_ : Int) (_ : Int) (x22 : Int) (A0 : Nat → Int) (A1 : Nat → Int) (A2 : Nat → Int) (A3 : Nat → Int) (A4 : Nat → Int) (A5 : Nat → Int) (A6 : Nat → Int) (A7 : Nat → Int) (A8 : Nat → Int) (A9 : Nat → Int) (A10 : Nat → Int) (A11 : Nat → Int) (_ : Nat → Int) (_ : Nat → Int) (_ : Nat → Int) (A15 : Nat → Int) (A16 : Nat → Int) (A17 : Nat → Int) (A18 : Nat → Int) (_ : Bool) (_ : Bool) (_ : Bool) (_ : Bool) (v0 : V1) (_ : V1) (b0 : Nat) (b1 : Nat) (b2 : Nat) (b3 : Nat) (b4 : Nat) (_ : Nat) : Prop :=
∀ b6 : Nat, Fork (¬ (x3 < x8)) (
  ∀ b7 : Nat, Fork (((((x0 = 3) ∨ (x0 = 4)) ∨ ((x5 = 0) ∧ (x6 = 0))) ∧ ((x0 = 4) ∨ (∀ j, j < 32 → A1 j = (fun _ => 0) j))) ∧ ((x0 = 5) ∨ (x7 = 0))) (
    ∀ b8 : Nat, Fork (x0 = 1) (
      Fork (x9 = 0) (
        Need ((-9223372036854775808) ≤ x4) (
        Need (x4 ≤ 9223372036854775807) (
        Need ((¬ (x4 < 8)) ∨ (0 ≤ x4)) (
        Need ((¬ (x4 < 8)) ∨ (x4 < 8)) (
        Need ((¬ (x4 < 8)) ∨ (0 ≤ x4)) (
        Need ((¬ (x4 < 8)) ∨ (x4 < 8)) (
        Need ((¬ ((x4 < 8) ∧ (0 < (A2 (Int.toNat x4))))) ∨ (0 ≤ x4)) (
        Need ((¬ ((x4 < 8) ∧ (0 < (A2 (Int.toNat x4))))) ∨ (x4 < 8)) (
        Need ((¬ ((x4 < 8) ∧ (0 < (A2 (Int.toNat x4))))) ∨ (0 ≤ x4)) (
        Need ((¬ ((x4 < 8) ∧ (0 < (A2 (Int.toNat x4))))) ∨ (x4 < 8)) (
        Fork ((¬ (((x4 < 8) ∧ (0 < (A2 (Int.toNat x4)))) ∧ ((A2 (Int.toNat x4)) ≤ 4))) ∨ (x4 = x1)) (
          Post (.int .i64 6) [rowHP b0 true (segCells .u8 8 A2 ++ ([.map (some b1), .map (some b2), .int .u64 x8])), mapHP b1 [.u8, .u8, .u8, .u8, .u8, .u8, .u8, .u8, .u8, .u8, .u8, .u8, .u8, .u8, .u8, .u8] true false ([.pointer none]) (fun i => !((updF A15 (Int.toNat ((kcode ((List.range 16).map A0) : Nat) : Int)) 0) i == 0)) (mcols [colP 1 (updF A16 (Int.toNat ((kcode ((List.range 16).map A0) : Nat) : Int)) 0)]), mapHP b2 [.u8, .u8] true false ([.pointer none]) (fun i => !((updF A17 (Int.toNat ((kcode ((List.range 2).map (updF (updF (fun _ => 0) 0 x1) 1 x2)) : Nat) : Int)) 1) i == 0)) (mcols [colP 1 (updF A18 (Int.toNat ((kcode ((List.range 2).map (updF (updF (fun _ => 0) 0 x1) 1 x2)) : Nat) : Int)) ((b3 : Nat) + 1 : Int))]), rowHP b3 true (.int .u8 x9 :: (segCells .u8 16 A3 ++ ([.bool (!(x22 == 0)), .int .u8 x10, .int .u8 x11, .int .u8 x12, .int .u64 x13, .int .u64 x14, .map (some b4), v0.v]))), mapHP b4 [.u8, .u8, .u8, .u8, .u8, .u8, .u8, .u8, .u8, .u8, .u8, .u8, .u8, .u8, .u8, .u8] true true ([]) (fun i => !(A4 i == 0)) (mcols []), sliHP true 85 22 v0.v (Int.toNat x15) (tabL (Int.toNat x15) [colI .u8 16 A5, colI .u8 1 A6, colB 1 A7, colI .u8 1 A8, colI .u64 1 A9, colI .u64 1 A10, colI .u64 1 A11]), rowHP b6 true (.int .u8 x0 :: (.int .u8 x1 :: (.int .u8 x2 :: (.int .u64 x3 :: (segCells .u8 16 A0 ++ (.int .u8 x4 :: (.int .u8 x5 :: (.int .u8 x6 :: (segCells .u8 32 A1 ++ ([.int .u8 x7])))))))))), rowHP b7 true (.int .u8 x0 :: (.int .u8 x1 :: (.int .u8 x2 :: (.int .u64 x3 :: (segCells .u8 16 A0 ++ (.int .u8 x4 :: (.int .u8 x5 :: (.int .u8 x6 :: (segCells .u8 32 A1 ++ ([.int .u8 x7])))))))))), rowHP b8 true (.int .u8 x0 :: (.int .u8 x1 :: (.int .u8 x2 :: (.int .u64 x3 :: (segCells .u8 16 A0 ++ (.int .u8 x4 :: (.int .u8 x5 :: (.int .u8 x6 :: (segCells .u8 32 A1 ++ ([.int .u8 x7]))))))))))]) (
          ∀ b9 : Nat, ∀ b10 : Nat, Post (.int .i64 0) [rowHP b0 true (segCells .u8 8 A2 ++ ([.map (some b1), .map (some b2), .int .u64 x3])), mapHP b1 [.u8, .u8, .u8, .u8, .u8, .u8, .u8, .u8, .u8, .u8, .u8, .u8, .u8, .u8, .u8, .u8] true false ([.pointer none]) (fun i => !((updF (updF A15 (Int.toNat ((kcode ((List.range 16).map A0) : Nat) : Int)) 0) (Int.toNat ((kcode ((List.range 16).map A0) : Nat) : Int)) 1) i == 0)) (mcols [colP 1 (updF (updF A16 (Int.toNat ((kcode ((List.range 16).map A0) : Nat) : Int)) 0) (Int.toNat ((kcode ((List.range 16).map A0) : Nat) : Int)) ((b9 : Nat) + 1 : Int))]), mapHP b2 [.u8, .u8] true false ([.pointer none]) (fun i => !((updF A17 (Int.toNat ((kcode ((List.range 2).map (updF (updF (fun _ => 0) 0 x1) 1 x2)) : Nat) : Int)) 1) i == 0)) (mcols [colP 1 (updF A18 (Int.toNat ((kcode ((List.range 2).map (updF (updF (fun _ => 0) 0 x1) 1 x2)) : Nat) : Int)) ((b3 : Nat) + 1 : Int))]), rowHP b3 true (.int .u8 1 :: (segCells .u8 16 A0 ++ ([.bool true, .int .u8 x4, .int .u8 0, .int .u8 0, .int .u64 x3, .int .u64 0, .map (some b4), v0.v]))), mapHP b4 [.u8, .u8, .u8, .u8, .u8, .u8, .u8, .u8, .u8, .u8, .u8, .u8, .u8, .u8, .u8, .u8] true true ([]) (fun i => !((updF A4 (Int.toNat ((kcode ((List.range 16).map A0) : Nat) : Int)) 1) i == 0)) (mcols []), sliHP true 85 22 v0.v (Int.toNat x15) (tabL (Int.toNat x15) [colI .u8 16 A5, colI .u8 1 A6, colB 1 A7, colI .u8 1 A8, colI .u64 1 A9, colI .u64 1 A10, colI .u64 1 A11]), rowHP b6 true (.int .u8 x0 :: (.int .u8 x1 :: (.int .u8 x2 :: (.int .u64 x3 :: (segCells .u8 16 A0 ++ (.int .u8 x4 :: (.int .u8 x5 :: (.int .u8 x6 :: (segCells .u8 32 A1 ++ ([.int .u8 x7])))))))))), rowHP b7 true (.int .u8 x0 :: (.int .u8 x1 :: (.int .u8 x2 :: (.int .u64 x3 :: (segCells .u8 16 A0 ++ (.int .u8 x4 :: (.int .u8 x5 :: (.int .u8 x6 :: (segCells .u8 32 A1 ++ ([.int .u8 x7])))))))))), rowHP b8 true (.int .u8 x0 :: (.int .u8 x1 :: (.int .u8 x2 :: (.int .u64 x3 :: (segCells .u8 16 A0 ++ (.int .u8 x4 :: (.int .u8 x5 :: (.int .u8 x6 :: (segCells .u8 32 A1 ++ ([.int .u8 x7])))))))))), rowHP b9 true (.int .u8 x1 :: (.int .u8 x2 :: (.int .u8 x4 :: (.slice none 0 0 :: (.bool false :: (.bool false :: (.int .u8 0 :: (.int .u8 0 :: (.bool false :: (segCells .u8 32 (fun _ => 0) ++ ([]))))))))))), rowHP b10 true (.int .u8 x0 :: (.int .u8 x1 :: (.int .u8 x2 :: (.int .u64 x3 :: (segCells .u8 16 A0 ++ (.int .u8 x4 :: (.int .u8 x5 :: (.int .u8 x6 :: (segCells .u8 32 A1 ++ ([.int .u8 x7]))))))))))])))))))))))) (
        Post (.int .i64 6) [rowHP b0 true (segCells .u8 8 A2 ++ ([.map (some b1), .map (some b2), .int .u64 x8])), mapHP b1 [.u8, .u8, .u8, .u8, .u8, .u8, .u8, .u8, .u8, .u8, .u8, .u8, .u8, .u8, .u8, .u8] true false ([.pointer none]) (fun i => !((updF A15 (Int.toNat ((kcode ((List.range 16).map A0) : Nat) : Int)) 0) i == 0)) (mcols [colP 1 (updF A16 (Int.toNat ((kcode ((List.range 16).map A0) : Nat) : Int)) 0)]), mapHP b2 [.u8, .u8] true false ([.pointer none]) (fun i => !((updF A17 (Int.toNat ((kcode ((List.range 2).map (updF (updF (fun _ => 0) 0 x1) 1 x2)) : Nat) : Int)) 1) i == 0)) (mcols [colP 1 (updF A18 (Int.toNat ((kcode ((List.range 2).map (updF (updF (fun _ => 0) 0 x1) 1 x2)) : Nat) : Int)) ((b3 : Nat) + 1 : Int))]), rowHP b3 true (.int .u8 x9 :: (segCells .u8 16 A3 ++ ([.bool (!(x22 == 0)), .int .u8 x10, .int .u8 x11, .int .u8 x12, .int .u64 x13, .int .u64 x14, .map (some b4), v0.v]))), mapHP b4 [.u8, .u8, .u8, .u8, .u8, .u8, .u8, .u8, .u8, .u8, .u8, .u8, .u8, .u8, .u8, .u8] true true ([]) (fun i => !(A4 i == 0)) (mcols []), sliHP true 85 22 v0.v (Int.toNat x15) (tabL (Int.toNat x15) [colI .u8 16 A5, colI .u8 1 A6, colB 1 A7, colI .u8 1 A8, colI .u64 1 A9, colI .u64 1 A10, colI .u64 1 A11]), rowHP b6 true (.int .u8 x0 :: (.int .u8 x1 :: (.int .u8 x2 :: (.int .u64 x3 :: (segCells .u8 16 A0 ++ (.int .u8 x4 :: (.int .u8 x5 :: (.int .u8 x6 :: (segCells .u8 32 A1 ++ ([.int .u8 x7])))))))))), rowHP b7 true (.int .u8 x0 :: (.int .u8 x1 :: (.int .u8 x2 :: (.int .u64 x3 :: (segCells .u8 16 A0 ++ (.int .u8 x4 :: (.int .u8 x5 :: (.int .u8 x6 :: (segCells .u8 32 A1 ++ ([.int .u8 x7])))))))))), rowHP b8 true (.int .u8 x0 :: (.int .u8 x1 :: (.int .u8 x2 :: (.int .u64 x3 :: (segCells .u8 16 A0 ++ (.int .u8 x4 :: (.int .u8 x5 :: (.int .u8 x6 :: (segCells .u8 32 A1 ++ ([.int .u8 x7]))))))))))])) (
      Post (.int .i64 6) [rowHP b0 true (segCells .u8 8 A2 ++ ([.map (some b1), .map (some b2), .int .u64 x8])), mapHP b1 [.u8, .u8, .u8, .u8, .u8, .u8, .u8, .u8, .u8, .u8, .u8, .u8, .u8, .u8, .u8, .u8] true false ([.pointer none]) (fun i => !((updF A15 (Int.toNat ((kcode ((List.range 16).map A0) : Nat) : Int)) 0) i == 0)) (mcols [colP 1 (updF A16 (Int.toNat ((kcode ((List.range 16).map A0) : Nat) : Int)) 0)]), mapHP b2 [.u8, .u8] true false ([.pointer none]) (fun i => !((updF A17 (Int.toNat ((kcode ((List.range 2).map (updF (updF (fun _ => 0) 0 x1) 1 x2)) : Nat) : Int)) 1) i == 0)) (mcols [colP 1 (updF A18 (Int.toNat ((kcode ((List.range 2).map (updF (updF (fun _ => 0) 0 x1) 1 x2)) : Nat) : Int)) ((b3 : Nat) + 1 : Int))]), rowHP b3 true (.int .u8 x9 :: (segCells .u8 16 A3 ++ ([.bool (!(x22 == 0)), .int .u8 x10, .int .u8 x11, .int .u8 x12, .int .u64 x13, .int .u64 x14, .map (some b4), v0.v]))), mapHP b4 [.u8, .u8, .u8, .u8, .u8, .u8, .u8, .u8, .u8, .u8, .u8, .u8, .u8, .u8, .u8, .u8] true true ([]) (fun i => !(A4 i == 0)) (mcols []), sliHP true 85 22 v0.v (Int.toNat x15) (tabL (Int.toNat x15) [colI .u8 16 A5, colI .u8 1 A6, colB 1 A7, colI .u8 1 A8, colI .u64 1 A9, colI .u64 1 A10, colI .u64 1 A11]), rowHP b6 true (.int .u8 x0 :: (.int .u8 x1 :: (.int .u8 x2 :: (.int .u64 x3 :: (segCells .u8 16 A0 ++ (.int .u8 x4 :: (.int .u8 x5 :: (.int .u8 x6 :: (segCells .u8 32 A1 ++ ([.int .u8 x7])))))))))), rowHP b7 true (.int .u8 x0 :: (.int .u8 x1 :: (.int .u8 x2 :: (.int .u64 x3 :: (segCells .u8 16 A0 ++ (.int .u8 x4 :: (.int .u8 x5 :: (.int .u8 x6 :: (segCells .u8 32 A1 ++ ([.int .u8 x7])))))))))), rowHP b8 true (.int .u8 x0 :: (.int .u8 x1 :: (.int .u8 x2 :: (.int .u64 x3 :: (segCells .u8 16 A0 ++ (.int .u8 x4 :: (.int .u8 x5 :: (.int .u8 x6 :: (segCells .u8 32 A1 ++ ([.int .u8 x7]))))))))))])) (
    Post (.int .i64 6) [rowHP b0 true (segCells .u8 8 A2 ++ ([.map (some b1), .map (some b2), .int .u64 x8])), mapHP b1 [.u8, .u8, .u8, .u8, .u8, .u8, .u8, .u8, .u8, .u8, .u8, .u8, .u8, .u8, .u8, .u8] true false ([.pointer none]) (fun i => !((updF A15 (Int.toNat ((kcode ((List.range 16).map A0) : Nat) : Int)) 0) i == 0)) (mcols [colP 1 (updF A16 (Int.toNat ((kcode ((List.range 16).map A0) : Nat) : Int)) 0)]), mapHP b2 [.u8, .u8] true false ([.pointer none]) (fun i => !((updF A17 (Int.toNat ((kcode ((List.range 2).map (updF (updF (fun _ => 0) 0 x1) 1 x2)) : Nat) : Int)) 1) i == 0)) (mcols [colP 1 (updF A18 (Int.toNat ((kcode ((List.range 2).map (updF (updF (fun _ => 0) 0 x1) 1 x2)) : Nat) : Int)) ((b3 : Nat) + 1 : Int))]), rowHP b3 true (.int .u8 x9 :: (segCells .u8 16 A3 ++ ([.bool (!(x22 == 0)), .int .u8 x10, .int .u8 x11, .int .u8 x12, .int .u64 x13, .int .u64 x14, .map (some b4), v0.v]))), mapHP b4 [.u8, .u8, .u8, .u8, .u8, .u8, .u8, .u8, .u8, .u8, .u8, .u8, .u8, .u8, .u8, .u8] true true ([]) (fun i => !(A4 i == 0)) (mcols []), sliHP true 85 22 v0.v (Int.toNat x15) (tabL (Int.toNat x15) [colI .u8 16 A5, colI .u8 1 A6, colB 1 A7, colI .u8 1 A8, colI .u64 1 A9, colI .u64 1 A10, colI .u64 1 A11]), rowHP b6 true (.int .u8 x0 :: (.int .u8 x1 :: (.int .u8 x2 :: (.int .u64 x3 :: (segCells .u8 16 A0 ++ (.int .u8 x4 :: (.int .u8 x5 :: (.int .u8 x6 :: (segCells .u8 32 A1 ++ ([.int .u8 x7])))))))))), rowHP b7 true (.int .u8 x0 :: (.int .u8 x1 :: (.int .u8 x2 :: (.int .u64 x3 :: (segCells .u8 16 A0 ++ (.int .u8 x4 :: (.int .u8 x5 :: (.int .u8 x6 :: (segCells .u8 32 A1 ++ ([.int .u8 x7]))))))))))])) (
  Post (.int .i64 6) [rowHP b0 true (segCells .u8 8 A2 ++ ([.map (some b1), .map (some b2), .int .u64 x8])), mapHP b1 [.u8, .u8, .u8, .u8, .u8, .u8, .u8, .u8, .u8, .u8, .u8, .u8, .u8, .u8, .u8, .u8] true false ([.pointer none]) (fun i => !((updF A15 (Int.toNat ((kcode ((List.range 16).map A0) : Nat) : Int)) 0) i == 0)) (mcols [colP 1 (updF A16 (Int.toNat ((kcode ((List.range 16).map A0) : Nat) : Int)) 0)]), mapHP b2 [.u8, .u8] true false ([.pointer none]) (fun i => !((updF A17 (Int.toNat ((kcode ((List.range 2).map (updF (updF (fun _ => 0) 0 x1) 1 x2)) : Nat) : Int)) 1) i == 0)) (mcols [colP 1 (updF A18 (Int.toNat ((kcode ((List.range 2).map (updF (updF (fun _ => 0) 0 x1) 1 x2)) : Nat) : Int)) ((b3 : Nat) + 1 : Int))]), rowHP b3 true (.int .u8 x9 :: (segCells .u8 16 A3 ++ ([.bool (!(x22 == 0)), .int .u8 x10, .int .u8 x11, .int .u8 x12, .int .u64 x13, .int .u64 x14, .map (some b4), v0.v]))), mapHP b4 [.u8, .u8, .u8, .u8, .u8, .u8, .u8, .u8, .u8, .u8, .u8, .u8, .u8, .u8, .u8, .u8] true true ([]) (fun i => !(A4 i == 0)) (mcols []), sliHP true 85 22 v0.v (Int.toNat x15) (tabL (Int.toNat x15) [colI .u8 16 A5, colI .u8 1 A6, colB 1 A7, colI .u8 1 A8, colI .u64 1 A9, colI .u64 1 A10, colI .u64 1 A11]), rowHP b6 true (.int .u8 x0 :: (.int .u8 x1 :: (.int .u8 x2 :: (.int .u64 x3 :: (segCells .u8 16 A0 ++ (.int .u8 x4 :: (.int .u8 x5 :: (.int .u8 x6 :: (segCells .u8 32 A1 ++ ([.int .u8 x7]))))))))))])
theorem vc_step0 (P : Program) (Post : Value → List HP → Prop) (x0 : Int) (x1 : Int) (x2 : Int) (x3 : Int) (x4 : Int) (x5 : Int) (x6 : Int) (x7 : Int) (x8 : Int) (x9 : Int) (x10 : Int) (x11 : Int) (x12 : Int) (x13 : Int) (x14 : Int) (x15 : Int) (x16 : Int) (x17 : Int) (x18 : Int) (x19 : Int) (x20 : Int) (x21 : Int) (x22 : Int) (A0 : Nat → Int) (A1 : Nat → Int) (A2 : Nat → Int) (A3 : Nat → Int) (A4 : Nat → Int) (A5 : Nat → Int) (A6 : Nat → Int) (A7 : Nat → Int) (A8 : Nat → Int) (A9 : Nat → Int) (A10 : Nat → Int) (A11 : Nat → Int) (A12 : Nat → Int) (A13 : Nat → Int) (A14 : Nat → Int) (A15 : Nat → Int) (A16 : Nat → Int) (A17 : Nat → Int) (A18 : Nat → Int) (q0 : Bool) (q1 : Bool) (q2 : Bool) (q3 : Bool) (v0 : V1) (v1 : V1) (b0 : Nat) (b1 : Nat) (b2 : Nat) (b3 : Nat) (b4 : Nat) (b5 : Nat) (L : Nat → LC) : VC P Post fm_step0 { iv := [x0, x1, x2, x3, x4, x5, x6, x7, x8, x9, x10, x11, x12, x13, x14, x15, x16, x17, x18, x19, x20, x21, x22], av := [A0, A1, A2, A3, A4, A5, A6, A7, A8, A9, A10, A11, A12, A13, A14, A15, A16, A17, A18], bo := [q0, q1, q2, q3], bv := [b0, b1, b2, b3, b4, b5], vv := [v0, v1] } L = st_step0 P Post x0 x1 x2 x3 x4 x5 x6 x7 x8 x9 x10 x11 x12 x13 x14 x15 x16 x17 x18 x19 x20 x21 x22 A0 A1 A2 A3 A4 A5 A6 A7 A8 A9 A10 A11 A12 A13 A14 A15 A16 A17 A18 q0 q1 q2 q3 v0 v1 b0 b1 b2 b3 b4 b5 := by kernel_rfl
theorem run_step0 : runF cx 36 ([Go.RX.SV.ptr 0 0, Go.RX.SV.agg [Go.RX.SV.int (Go.IntKind.u8) (Go.RX.E.var 0), Go.RX.SV.int (Go.IntKind.u8) (Go.RX.E.var 1), Go.RX.SV.int (Go.IntKind.u8) (Go.RX.E.var 2), Go.RX.SV.int (Go.IntKind.u64) (Go.RX.E.var 3), Go.RX.SV.seg (Go.IntKind.u8) 16 (Go.RX.E.avar 0), Go.RX.SV.int (Go.IntKind.u8) (Go.RX.E.var 4), Go.RX.SV.int (Go.IntKind.u8) (Go.RX.E.var 5), Go.RX.SV.int (Go.IntKind.u8) (Go.RX.E.var 6), Go.RX.SV.seg (Go.IntKind.u8) 32 (Go.RX.E.avar 1), Go.RX.SV.int (Go.IntKind.u8) (Go.RX.E.var 7)]]) ([Go.RX.Ck.row 0 true [Go.RX.SV.seg (Go.IntKind.u8) 8 (Go.RX.E.avar 2), Go.RX.SV.mp 1, Go.RX.SV.mp 2, Go.RX.SV.int (Go.IntKind.u64) (Go.RX.E.var 8)], Go.RX.Ck.map 1 [Go.IntKind.u8, Go.IntKind.u8, Go.IntKind.u8, Go.IntKind.u8, Go.IntKind.u8, Go.IntKind.u8, Go.IntKind.u8, Go.IntKind.u8, Go.IntKind.u8, Go.IntKind.u8, Go.IntKind.u8, Go.IntKind.u8, Go.IntKind.u8, Go.IntKind.u8, Go.IntKind.u8, Go.IntKind.u8] true false [Go.RX.SV.nilp] (Go.RX.E.upd (Go.RX.E.avar 15) (Go.RX.E.kc 16 (Go.RX.E.avar 0)) (Go.RX.E.lit 0)) [{ ck := Go.RX.CK.ptr, w := 1, a := Go.RX.E.upd (Go.RX.E.avar 16) (Go.RX.E.kc 16 (Go.RX.E.avar 0)) (Go.RX.E.lit 0) }], Go.RX.Ck.map 2 [Go.IntKind.u8, Go.IntKind.u8] true false [Go.RX.SV.nilp] (Go.RX.E.upd (Go.RX.E.avar 17) (Go.RX.E.kc 2 (Go.RX.E.upd (Go.RX.E.upd (Go.RX.E.lit 0) (Go.RX.E.lit 0) (Go.RX.E.var 1)) (Go.RX.E.lit 1) (Go.RX.E.var 2))) (Go.RX.E.lit 1)) [{ ck := Go.RX.CK.ptr, w := 1, a := Go.RX.E.upd (Go.RX.E.avar 18) (Go.RX.E.kc 2 (Go.RX.E.upd (Go.RX.E.upd (Go.RX.E.lit 0) (Go.RX.E.lit 0) (Go.RX.E.var 1)) (Go.RX.E.lit 1) (Go.RX.E.var 2))) (Go.RX.E.blk 3) }], Go.RX.Ck.row 3 true [Go.RX.SV.int (Go.IntKind.u8) (Go.RX.E.var 9), Go.RX.SV.seg (Go.IntKind.u8) 16 (Go.RX.E.avar 3), Go.RX.SV.bool (Go.RX.BE.nz (Go.RX.E.var 22)), Go.RX.SV.int (Go.IntKind.u8) (Go.RX.E.var 10), Go.RX.SV.int (Go.IntKind.u8) (Go.RX.E.var 11), Go.RX.SV.int (Go.IntKind.u8) (Go.RX.E.var 12), Go.RX.SV.int (Go.IntKind.u64) (Go.RX.E.var 13), Go.RX.SV.int (Go.IntKind.u64) (Go.RX.E.var 14), Go.RX.SV.mp 4, Go.RX.SV.vv 0], Go.RX.Ck.map 4 [Go.IntKind.u8, Go.IntKind.u8, Go.IntKind.u8, Go.IntKind.u8, Go.IntKind.u8, Go.IntKind.u8, Go.IntKind.u8, Go.IntKind.u8, Go.IntKind.u8, Go.IntKind.u8, Go.IntKind.u8, Go.IntKind.u8, Go.IntKind.u8, Go.IntKind.u8, Go.IntKind.u8, Go.IntKind.u8] true true [] (Go.RX.E.avar 4) [], Go.RX.Ck.sli true 0 85 22 (Go.RX.E.var 15) [{ ck := Go.RX.CK.int (Go.IntKind.u8), w := 16, a := Go.RX.E.avar 5 }, { ck := Go.RX.CK.int (Go.IntKind.u8), w := 1, a := Go.RX.E.avar 6 }, { ck := Go.RX.CK.bool, w := 1, a := Go.RX.E.avar 7 }, { ck := Go.RX.CK.int (Go.IntKind.u8), w := 1, a := Go.RX.E.avar 8 }, { ck := Go.RX.CK.int (Go.IntKind.u64), w := 1, a := Go.RX.E.avar 9 }, { ck := Go.RX.CK.int (Go.IntKind.u64), w := 1, a := Go.RX.E.avar 10 }, { ck := Go.RX.CK.int (Go.IntKind.u64), w := 1, a := Go.RX.E.avar 11 }]]) ({ b := 6, v := 2, i := 23, a := 19, bo := 4, p := 0, r := 0 }) Try.f36 = fm_step0 := rfl
noncomputable def fm_contains : F := runF cx 122 ([Go.RX.SV.vv 0, Go.RX.SV.agg [Go.RX.SV.int (Go.IntKind.u8) (Go.RX.E.var 0), Go.RX.SV.int (Go.IntKind.u8) (Go.RX.E.var 1)]]) ([Go.RX.Ck.sli true 0 30 2 (Go.RX.E.var 2) [{ ck := Go.RX.CK.int (Go.IntKind.u8), w := 1, a := Go.RX.E.avar 0 }, { ck := Go.RX.CK.int (Go.IntKind.u8), w := 1, a := Go.RX.E.avar 1 }]]) ({ b := 0, v := 1, i := 3, a := 2, bo := 0, p := 0, r := 0 }) Try.f122
def st_contains (P : Program) (Post : Value → List HP → Prop) (x0 : Int) (x1 : Int) (x2 : Int) (A0 : Nat → Int) (A1 : Nat → Int) (v0 : V1) : Prop :=
∀ b0 : Nat, ∃ post, Meets P 138 [v0.v, .agg #[.int .u8 x0, .int .u8 x1]] [sliHP true 30 2 v0.v (Int.toNat x2) (tabL (Int.toNat x2) [colI .u8 1 A0, colI .u8 1 A1])] post ∧
∀ x hs, post x hs → ∃ x3 : Int, x = .int .i64 x3 ∧ hs = [sliHP true 30 2 v0.v (Int.toNat x2) (tabL (Int.toNat x2) [colI .u8 1 A0, colI .u8 1 A1])] ∧
 Post (.bool (decide (0 ≤ x3))) [sliHP true 30 2 v0.v (Int.toNat x2) (tabL (Int.toNat x2) [colI .u8 1 A0, colI .u8 1 A1]), rowHP b0 true ([.int .u8 x0, .int .u8 x1])]
theorem vc_contains (P : Program) (Post : Value → List HP → Prop) (x0 : Int) (x1 : Int) (x2 : Int) (A0 : Nat → Int) (A1 : Nat → Int) (v0 : V1) (L : Nat → LC) : VC P Post fm_contains { iv := [x0, x1, x2], av := [A0, A1], bo := [], bv := [], vv := [v0] } L = st_contains P Post x0 x1 x2 A0 A1 v0 := by kernel_rfl
theorem run_contains : runF cx 122 ([Go.RX.SV.vv 0, Go.RX.SV.agg [Go.RX.SV.int (Go.IntKind.u8) (Go.RX.E.var 0), Go.RX.SV.int (Go.IntKind.u8) (Go.RX.E.var 1)]]) ([Go.RX.Ck.sli true 0 30 2 (Go.RX.E.var 2) [{ ck := Go.RX.CK.int (Go.IntKind.u8), w := 1, a := Go.RX.E.avar 0 }, { ck := Go.RX.CK.int (Go.IntKind.u8), w := 1, a := Go.RX.E.avar 1 }]]) ({ b := 0, v := 1, i := 3, a := 2, bo := 0, p := 0, r := 0 }) Try.f122 = fm_contains := rfl
noncomputable def fm_index : F := runF cx 138 ([Go.RX.SV.vv 0, Go.RX.SV.agg [Go.RX.SV.int (Go.IntKind.u8) (Go.RX.E.var 0), Go.RX.SV.int (Go.IntKind.u8) (Go.RX.E.var 1)]]) ([Go.RX.Ck.sli true 0 30 2 (Go.RX.E.var 2) [{ ck := Go.RX.CK.int (Go.IntKind.u8), w := 1, a := Go.RX.E.avar 0 }, { ck := Go.RX.CK.int (Go.IntKind.u8), w := 1, a := Go.RX.E.avar 1 }]]) ({ b := 0, v := 1, i := 3, a := 2, bo := 0, p := 0, r := 0 }) Try.f138
def st_index (_ : Program) (Post : Value → List HP → Prop) (x0 : Int) (x1 : Int) (x2 : Int) (A0 : Nat → Int) (A1 : Nat → Int) (v0 : V1) : Prop :=
∀ b0 : Nat, Need (0 ≤ x2) (
∃ (I0x0 : Ext → Prop) (m0x0 : Ext → Nat), (∃ x3 : Int, x3 = 0 ∧ I0x0 ⟨[], [], [x3], [], [], [], []⟩) ∧
∀ x3 : Int, I0x0 ⟨[], [], [x3], [], [], [], []⟩ →
  Fork (x3 < x2) (
    Need (0 ≤ x3) (
    Fork ((x0 = (A0 (Int.toNat x3))) ∧ (x1 = (A1 (Int.toNat x3)))) (
      Post (.int .i64 x3) [sliHP true 30 2 v0.v (Int.toNat x2) (tabL (Int.toNat x2) [colI .u8 1 A0, colI .u8 1 A1]), rowHP b0 true ([.int .u8 x0, .int .u8 x1])]) (
      Need ((-9223372036854775808) ≤ (x3 + 1)) (
      Need ((x3 + 1) ≤ 9223372036854775807) (
      ∃ x3' : Int, x3' = (x3 + 1) ∧ I0x0 ⟨[], [], [x3'], [], [], [], []⟩ ∧ m0x0 ⟨[], [], [x3'], [], [], [], []⟩ < m0x0 ⟨[], [], [x3], [], [], [], []⟩))))) (
    Post (.int .i64 (-1)) [sliHP true 30 2 v0.v (Int.toNat x2) (tabL (Int.toNat x2) [colI .u8 1 A0, colI .u8 1 A1]), rowHP b0 true ([.int .u8 x0, .int .u8 x1])]))
theorem vc_index (P : Program) (Post : Value → List HP → Prop) (x0 : Int) (x1 : Int) (x2 : Int) (A0 : Nat → Int) (A1 : Nat → Int) (v0 : V1) (L : Nat → LC) : VC P Post fm_index { iv := [x0, x1, x2], av := [A0, A1], bo := [], bv := [], vv := [v0] } L = st_index P Post x0 x1 x2 A0 A1 v0 := by kernel_rfl
theorem run_index : runF cx 138 ([Go.RX.SV.vv 0, Go.RX.SV.agg [Go.RX.SV.int (Go.IntKind.u8) (Go.RX.E.var 0), Go.RX.SV.int (Go.IntKind.u8) (Go.RX.E.var 1)]]) ([Go.RX.Ck.sli true 0 30 2 (Go.RX.E.var 2) [{ ck := Go.RX.CK.int (Go.IntKind.u8), w := 1, a := Go.RX.E.avar 0 }, { ck := Go.RX.CK.int (Go.IntKind.u8), w := 1, a := Go.RX.E.avar 1 }]]) ({ b := 0, v := 1, i := 3, a := 2, bo := 0, p := 0, r := 0 }) Try.f138 = fm_index := rfl
end Go.RX.So
