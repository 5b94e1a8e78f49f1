/- The types and functions of the seat's program, for the executor; printed by a program of ours (wip/tools/genctx.lean). · What library functions are known to do, at sight: for the executor. · What library functions are known to do, at sight, where moves are read and printed: for the executor. · What the executor is told of the calls and loops of the program's side of AuditLines. · What the executor is told of the calls and loops of the printing of moves. · What the executor is told of the calls and loops of the document's reading of moves. · What the executor is told of the document's reading of a text. · What the executor is told of the calls of the program's reader of numbers. · What the executor is told of the calls of the program's reading of moves. -/
import Derived.Test.YtgaabcinjbjbgaaGreatDoorProg
import Derived.Test.YtgaabcinjbjbgaaGreatDoorM26
import Derived.KernelRfl
import Derived.Test.YtgaabcinjbjbgaaGreatDoorRxD
import Derived.Lib.ItoaNum
import Derived.Lib.ParseIntB
import Derived.Lib.AtoiAll

namespace Go.RX
open Go.Proofs
set_option maxRecDepth 100000
def TT : List TI := [
  ⟨2, .int .i64, 1, 8, [.int .i64 (.lit 0)], []⟩,
  ⟨3, .int .i64, 1, 8, [.int .i64 (.lit 0)], []⟩,
  ⟨4, .bool, 1, 1, [.bool (.lit false)], []⟩,
  ⟨5, .int .u8, 1, 1, [.int .u8 (.lit 0)], []⟩,
  ⟨9, .str, 1, 16, [.str []], []⟩,
  ⟨21, .int .i32, 1, 4, [.int .i32 (.lit 0)], []⟩,
  ⟨23, .slice 39, 1, 24, [.nils], []⟩,
  ⟨24, .int .i64, 1, 8, [.int .i64 (.lit 0)], []⟩,
  ⟨27, .slice 3, 1, 24, [.nils], []⟩,
  ⟨35, .struct [(5, 0), (5, 1)], 2, 2, [.int .u8 (.lit 0), .int .u8 (.lit 0)], [(some .u8, 2)]⟩,
  ⟨36, .int .u64, 1, 8, [.int .u64 (.lit 0)], []⟩,
  ⟨37, .slice 5, 1, 24, [.nils], []⟩,
  ⟨39, .struct [(5, 0), (35, 1), (35, 3), (3, 5), (36, 6), (37, 7)], 8, 48, [.int .u8 (.lit 0), .int .u8 (.lit 0), .int .u8 (.lit 0), .int .u8 (.lit 0), .int .u8 (.lit 0), .int .i64 (.lit 0), .int .u64 (.lit 0), .nils], []⟩,
  ⟨43, .arr 16 5, 16, 16, [.seg .u8 16 (.lit 0)], [(some .u8, 16)]⟩,
  ⟨45, .struct [(4, 0), (24, 1), (43, 2), (37, 18)], 19, 56, [.bool (.lit false), .int .i64 (.lit 0), .seg .u8 16 (.lit 0), .nils], []⟩,
  ⟨53, .func, 1, 8, [.nilf], []⟩,
  ⟨59, .struct [(5, 0), (3, 1), (35, 2), (43, 4)], 20, 40, [.int .u8 (.lit 0), .int .i64 (.lit 0), .int .u8 (.lit 0), .int .u8 (.lit 0), .seg .u8 16 (.lit 0)], [(some .u8, 1), (some .i64, 1), (some .u8, 18)]⟩,
  ⟨62, .struct [(5, 0), (3, 1), (35, 2), (43, 4)], 20, 40, [.int .u8 (.lit 0), .int .i64 (.lit 0), .int .u8 (.lit 0), .int .u8 (.lit 0), .seg .u8 16 (.lit 0)], [(some .u8, 1), (some .i64, 1), (some .u8, 18)]⟩,
  ⟨68, .slice 59, 1, 24, [.nils], []⟩,
  ⟨69, .arr 8 3, 8, 64, [.seg .i64 8 (.lit 0)], [(some .i64, 8)]⟩,
  ⟨72, .func, 1, 8, [.nilf], []⟩,
  ⟨77, .func, 1, 8, [.nilf], []⟩,
  ⟨78, .slice 9, 1, 24, [.nils], []⟩,
  ⟨91, .ptr 93, 1, 8, [.nilp], []⟩,
  ⟨93, .bld [(91, 0), (37, 1)] 5, 2, 32, [.nilp, .nils], []⟩,
  ⟨95, .iface, 1, 16, [.nili], []⟩,
  ⟨101, .arr 32 5, 32, 32, [.seg .u8 32 (.lit 0)], [(some .u8, 32)]⟩,
  ⟨102, .arr 32 5, 32, 32, [.seg .u8 32 (.lit 0)], [(some .u8, 32)]⟩,
  ⟨104, .struct [(5, 0), (35, 1), (36, 3), (43, 4), (5, 20), (35, 21), (102, 23), (5, 55)], 56, 72, [.int .u8 (.lit 0), .int .u8 (.lit 0), .int .u8 (.lit 0), .int .u64 (.lit 0), .seg .u8 16 (.lit 0), .int .u8 (.lit 0), .int .u8 (.lit 0), .int .u8 (.lit 0), .seg .u8 32 (.lit 0), .int .u8 (.lit 0)], [(some .u8, 3), (some .u64, 1), (some .u8, 52)]⟩,
  ⟨105, .slice 62, 1, 24, [.nils], []⟩,
  ⟨108, .arr 8 5, 8, 8, [.seg .u8 8 (.lit 0)], [(some .u8, 8)]⟩,
  ⟨110, .slice 104, 1, 24, [.nils], []⟩,
  ⟨112, .struct [(35, 0), (37, 2)], 3, 32, [.int .u8 (.lit 0), .int .u8 (.lit 0), .nils], []⟩,
  ⟨113, .slice 112, 1, 24, [.nils], []⟩,
  ⟨116, .int .u64, 1, 8, [.int .u64 (.lit 0)], []⟩,
  ⟨124, .func, 1, 8, [.nilf], []⟩,
  ⟨129, .func, 1, 8, [.nilf], []⟩,
  ⟨140, .ptr 5, 1, 8, [.nilp], []⟩,
  ⟨141, .ptr 178, 1, 8, [.nilp], []⟩,
  ⟨143, .map 43 145, 1, 8, [.nilm], []⟩,
  ⟨145, .struct [], 0, 0, [], []⟩,
  ⟨148, .slice 35, 1, 24, [.nils], []⟩,
  ⟨151, .func, 1, 8, [.nilf], []⟩,
  ⟨152, .slice 158, 1, 24, [.nils], []⟩,
  ⟨158, .struct [(43, 0), (5, 16), (4, 17), (5, 18), (36, 19), (36, 20), (36, 21)], 22, 48, [.seg .u8 16 (.lit 0), .int .u8 (.lit 0), .bool (.lit false), .int .u8 (.lit 0), .int .u64 (.lit 0), .int .u64 (.lit 0), .int .u64 (.lit 0)], [(some .u8, 17), (none, 1), (some .u8, 1), (some .u64, 3)]⟩,
  ⟨160, .func, 1, 8, [.nilf], []⟩,
  ⟨167, .slice 169, 1, 24, [.nils], []⟩,
  ⟨169, .struct [(3, 0), (3, 1)], 2, 16, [.int .i64 (.lit 0), .int .i64 (.lit 0)], [(some .i64, 2)]⟩,
  ⟨171, .ptr 39, 1, 8, [.nilp], []⟩,
  ⟨175, .map 43 208, 1, 8, [.nilm], []⟩,
  ⟨176, .map 35 179, 1, 8, [.nilm], []⟩,
  ⟨178, .struct [(108, 0), (175, 8), (176, 9), (36, 10)], 11, 32, [.seg .u8 8 (.lit 0), .nilm, .nilm, .int .u64 (.lit 0)], []⟩,
  ⟨179, .ptr 181, 1, 8, [.nilp], []⟩,
  ⟨181, .struct [(5, 0), (43, 1), (4, 17), (5, 18), (35, 19), (36, 21), (36, 22), (143, 23), (152, 24)], 25, 72, [.int .u8 (.lit 0), .seg .u8 16 (.lit 0), .bool (.lit false), .int .u8 (.lit 0), .int .u8 (.lit 0), .int .u8 (.lit 0), .int .u64 (.lit 0), .int .u64 (.lit 0), .nilm, .nils], []⟩,
  ⟨185, .ptr 224, 1, 8, [.nilp], []⟩,
  ⟨194, .func, 1, 8, [.nilf], []⟩,
  ⟨202, .arr 24 5, 24, 24, [.seg .u8 24 (.lit 0)], [(some .u8, 24)]⟩,
  ⟨208, .ptr 211, 1, 8, [.nilp], []⟩,
  ⟨211, .struct [(35, 0), (5, 2), (148, 3), (4, 4), (4, 5), (35, 6), (4, 8), (102, 9)], 41, 72, [.int .u8 (.lit 0), .int .u8 (.lit 0), .int .u8 (.lit 0), .nils, .bool (.lit false), .bool (.lit false), .int .u8 (.lit 0), .int .u8 (.lit 0), .bool (.lit false), .seg .u8 32 (.lit 0)], []⟩,
  ⟨221, .struct [(152, 0), (3, 1)], 2, 32, [.nils, .int .i64 (.lit 0)], []⟩,
  ⟨222, .ptr 221, 1, 8, [.nilp], []⟩,
  ⟨224, .struct [(222, 0)], 1, 8, [.nilp], []⟩,
  ⟨240, .arr 20 36, 20, 160, [.seg .u64 20 (.lit 0)], [(some .u64, 20)]⟩,
  ⟨241, .int .u32, 1, 4, [.int .u32 (.lit 0)], []⟩,
  ⟨242, .arr 65 5, 65, 65, [.seg .u8 65 (.lit 0)], [(some .u8, 65)]⟩,
  ⟨249, .ptr 270, 1, 8, [.nilp], []⟩,
  ⟨259, .struct [(9, 0), (9, 1), (95, 2)], 3, 48, [.str [], .str [], .nili], []⟩,
  ⟨261, .arr 256 5, 256, 256, [.seg .u8 256 (.lit 0)], [(some .u8, 256)]⟩,
  ⟨263, .struct [(5, 0), (5, 1)], 2, 2, [.int .u8 (.lit 0), .int .u8 (.lit 0)], [(some .u8, 2)]⟩,
  ⟨264, .arr 16 263, 32, 32, [.int .u8 (.lit 0), .int .u8 (.lit 0), .int .u8 (.lit 0), .int .u8 (.lit 0), .int .u8 (.lit 0), .int .u8 (.lit 0), .int .u8 (.lit 0), .int .u8 (.lit 0), .int .u8 (.lit 0), .int .u8 (.lit 0), .int .u8 (.lit 0), .int .u8 (.lit 0), .int .u8 (.lit 0), .int .u8 (.lit 0), .int .u8 (.lit 0), .int .u8 (.lit 0), .int .u8 (.lit 0), .int .u8 (.lit 0), .int .u8 (.lit 0), .int .u8 (.lit 0), .int .u8 (.lit 0), .int .u8 (.lit 0), .int .u8 (.lit 0), .int .u8 (.lit 0), .int .u8 (.lit 0), .int .u8 (.lit 0), .int .u8 (.lit 0), .int .u8 (.lit 0), .int .u8 (.lit 0), .int .u8 (.lit 0), .int .u8 (.lit 0), .int .u8 (.lit 0)], [(some .u8, 32)]⟩,
  ⟨270, .struct [(37, 0), (4, 1)], 2, 32, [.nils, .bool (.lit false)], []⟩,
  ⟨274, .struct [(9, 0)], 1, 16, [.str []], []⟩,
  ⟨275, .arr 64 5, 64, 64, [.seg .u8 64 (.lit 0)], [(some .u8, 64)]⟩]
theorem okT : checkT Tryz.prog TT = true := by kernel_rfl
noncomputable def FT : List (Nat × Func) := [(2, Tryz.f2), (3, Tryz.f3), (4, Tryz.f4), (5, Tryz.f5), (6, Tryz.f6), (7, Tryz.f7), (8, Tryz.f8), (9, Tryz.f9), (10, Tryz.f10), (11, Tryz.f11), (12, Tryz.f12), (13, Tryz.f13), (14, Tryz.f14), (15, Tryz.f15), (16, Tryz.f16), (17, Tryz.f17), (18, Tryz.f18), (19, Tryz.f19), (20, Tryz.f20), (21, Tryz.f21), (22, Tryz.f22), (23, Tryz.f23), (24, Tryz.f24), (25, Tryz.f25), (26, Tryz.f26), (27, Tryz.f27), (28, Tryz.f28), (29, Tryz.f29), (30, Tryz.f30), (31, Tryz.f31), (32, Tryz.f32), (33, Tryz.f33), (34, Tryz.f34), (35, Tryz.f35), (36, Tryz.f36), (37, Tryz.f37), (38, Tryz.f38), (39, Tryz.f39), (40, Tryz.f40), (41, Tryz.f41), (42, Tryz.f42), (43, Tryz.f43), (44, Tryz.f44), (45, Tryz.f45), (46, Tryz.f46), (47, Tryz.f47), (48, Tryz.f48), (49, Tryz.f49), (50, Tryz.f50), (51, Tryz.f51), (52, Tryz.f52), (53, Tryz.f53), (54, Tryz.f54), (55, Tryz.f55), (56, Tryz.f56), (57, Tryz.f57), (58, Tryz.f58), (59, Tryz.f59), (60, Tryz.f60), (61, Tryz.f61), (62, Tryz.f62), (63, Tryz.f63), (64, Tryz.f64), (65, Tryz.f65), (66, Tryz.f66), (67, Tryz.f67), (68, Tryz.f68), (69, Tryz.f69), (70, Tryz.f70), (71, Tryz.f71), (72, Tryz.f72), (73, Tryz.f73), (74, Tryz.f74), (75, Tryz.f75), (76, Tryz.f76), (77, Tryz.f77), (78, Tryz.f78), (79, Tryz.f79), (80, Tryz.f80), (81, Tryz.f81), (82, Tryz.f82), (83, Tryz.f83), (84, Tryz.f84), (85, Tryz.f85), (86, Tryz.f86), (87, Tryz.f87), (88, Tryz.f88), (89, Tryz.f89), (90, Tryz.f90), (91, Tryz.f91), (92, Tryz.f92), (93, Tryz.f93), (94, Tryz.f94), (96, Tryz.f96), (97, Tryz.f97), (98, Tryz.f98), (99, Tryz.f99), (100, Tryz.f100), (101, Tryz.f101), (102, Tryz.f102), (103, Tryz.f103), (104, Tryz.f104), (105, Tryz.f105), (106, Tryz.f106), (107, Tryz.f107), (108, Tryz.f108), (109, Tryz.f109), (110, Tryz.f110), (111, Tryz.f111), (113, Tryz.f113), (114, Tryz.f114), (115, Tryz.f115), (116, Tryz.f116), (117, Tryz.f117), (118, Tryz.f118), (119, Tryz.f119), (120, Tryz.f120), (121, Tryz.f121), (122, Tryz.f122), (124, Tryz.f124), (125, Tryz.f125), (126, Tryz.f126), (127, Tryz.f127), (128, Tryz.f128), (129, Tryz.f129), (130, Tryz.f130), (131, Tryz.f131), (132, Tryz.f132), (133, Tryz.f133), (134, Tryz.f134), (135, Tryz.f135), (136, Tryz.f136), (139, Tryz.f139), (140, Tryz.f140), (141, Tryz.f141), (142, Tryz.f142), (143, Tryz.f143), (144, Tryz.f144), (145, Tryz.f145), (146, Tryz.f146), (147, Tryz.f147), (148, Tryz.f148), (149, Tryz.f149), (150, Tryz.f150), (151, Tryz.f151), (152, Tryz.f152), (153, Tryz.f153), (154, Tryz.f154), (155, Tryz.f155), (156, Tryz.f156), (157, Tryz.f157), (158, Tryz.f158), (159, Tryz.f159), (160, Tryz.f160), (161, Tryz.f161), (162, Tryz.f162), (163, Tryz.f163), (164, Tryz.f164), (165, Tryz.f165), (166, Tryz.f166), (167, Tryz.f167), (168, Tryz.f168), (169, Tryz.f169), (170, Tryz.f170), (171, Tryz.f171), (172, Tryz.f172), (173, Tryz.f173), (174, Tryz.f174), (175, Tryz.f175), (176, Tryz.f176), (208, Tryz.f208)]
theorem okFT : FTOk 
  Tryz.prog FT :=
  FTOk.cons Tryz.func2 (by kernel_rfl) <|
  FTOk.cons Tryz.func3 (by kernel_rfl) <|
  FTOk.cons Tryz.func4 (by kernel_rfl) <|
  FTOk.cons Tryz.func5 (by kernel_rfl) <|
  FTOk.cons Tryz.func6 (by kernel_rfl) <|
  FTOk.cons Tryz.func7 (by kernel_rfl) <|
  FTOk.cons Tryz.func8 (by kernel_rfl) <|
  FTOk.cons Tryz.func9 (by kernel_rfl) <|
  FTOk.cons Tryz.func10 (by kernel_rfl) <|
  FTOk.cons Tryz.func11 (by kernel_rfl) <|
  FTOk.cons Tryz.func12 (by kernel_rfl) <|
  FTOk.cons Tryz.func13 (by kernel_rfl) <|
  FTOk.cons Tryz.func14 (by kernel_rfl) <|
  FTOk.cons Tryz.func15 (by kernel_rfl) <|
  FTOk.cons Tryz.func16 (by kernel_rfl) <|
  FTOk.cons Tryz.func17 (by kernel_rfl) <|
  FTOk.cons Tryz.func18 (by kernel_rfl) <|
  FTOk.cons Tryz.func19 (by kernel_rfl) <|
  FTOk.cons Tryz.func20 (by kernel_rfl) <|
  FTOk.cons Tryz.func21 (by kernel_rfl) <|
  FTOk.cons Tryz.func22 (by kernel_rfl) <|
  FTOk.cons Tryz.func23 (by kernel_rfl) <|
  FTOk.cons Tryz.func24 (by kernel_rfl) <|
  FTOk.cons Tryz.func25 (by kernel_rfl) <|
  FTOk.cons Tryz.func26 (by kernel_rfl) <|
  FTOk.cons Tryz.func27 (by kernel_rfl) <|
  FTOk.cons Tryz.func28 (by kernel_rfl) <|
  FTOk.cons Tryz.func29 (by kernel_rfl) <|
  FTOk.cons Tryz.func30 (by kernel_rfl) <|
  FTOk.cons Tryz.func31 (by kernel_rfl) <|
  FTOk.cons Tryz.func32 (by kernel_rfl) <|
  FTOk.cons Tryz.func33 (by kernel_rfl) <|
  FTOk.cons Tryz.func34 (by kernel_rfl) <|
  FTOk.cons Tryz.func35 (by kernel_rfl) <|
  FTOk.cons Tryz.func36 (by kernel_rfl) <|
  FTOk.cons Tryz.func37 (by kernel_rfl) <|
  FTOk.cons Tryz.func38 (by kernel_rfl) <|
  FTOk.cons Tryz.func39 (by kernel_rfl) <|
  FTOk.cons Tryz.func40 (by kernel_rfl) <|
  FTOk.cons Tryz.func41 (by kernel_rfl) <|
  FTOk.cons Tryz.func42 (by kernel_rfl) <|
  FTOk.cons Tryz.func43 (by kernel_rfl) <|
  FTOk.cons Tryz.func44 (by kernel_rfl) <|
  FTOk.cons Tryz.func45 (by kernel_rfl) <|
  FTOk.cons Tryz.func46 (by kernel_rfl) <|
  FTOk.cons Tryz.func47 (by kernel_rfl) <|
  FTOk.cons Tryz.func48 (by kernel_rfl) <|
  FTOk.cons Tryz.func49 (by kernel_rfl) <|
  FTOk.cons Tryz.func50 (by kernel_rfl) <|
  FTOk.cons Tryz.func51 (by kernel_rfl) <|
  FTOk.cons Tryz.func52 (by kernel_rfl) <|
  FTOk.cons Tryz.func53 (by kernel_rfl) <|
  FTOk.cons Tryz.func54 (by kernel_rfl) <|
  FTOk.cons Tryz.func55 (by kernel_rfl) <|
  FTOk.cons Tryz.func56 (by kernel_rfl) <|
  FTOk.cons Tryz.func57 (by kernel_rfl) <|
  FTOk.cons Tryz.func58 (by kernel_rfl) <|
  FTOk.cons Tryz.func59 (by kernel_rfl) <|
  FTOk.cons Tryz.func60 (by kernel_rfl) <|
  FTOk.cons Tryz.func61 (by kernel_rfl) <|
  FTOk.cons Tryz.func62 (by kernel_rfl) <|
  FTOk.cons Tryz.func63 (by kernel_rfl) <|
  FTOk.cons Tryz.func64 (by kernel_rfl) <|
  FTOk.cons Tryz.func65 (by kernel_rfl) <|
  FTOk.cons Tryz.func66 (by kernel_rfl) <|
  FTOk.cons Tryz.func67 (by kernel_rfl) <|
  FTOk.cons Tryz.func68 (by kernel_rfl) <|
  FTOk.cons Tryz.func69 (by kernel_rfl) <|
  FTOk.cons Tryz.func70 (by kernel_rfl) <|
  FTOk.cons Tryz.func71 (by kernel_rfl) <|
  FTOk.cons Tryz.func72 (by kernel_rfl) <|
  FTOk.cons Tryz.func73 (by kernel_rfl) <|
  FTOk.cons Tryz.func74 (by kernel_rfl) <|
  FTOk.cons Tryz.func75 (by kernel_rfl) <|
  FTOk.cons Tryz.func76 (by kernel_rfl) <|
  FTOk.cons Tryz.func77 (by kernel_rfl) <|
  FTOk.cons Tryz.func78 (by kernel_rfl) <|
  FTOk.cons Tryz.func79 (by kernel_rfl) <|
  FTOk.cons Tryz.func80 (by kernel_rfl) <|
  FTOk.cons Tryz.func81 (by kernel_rfl) <|
  FTOk.cons Tryz.func82 (by kernel_rfl) <|
  FTOk.cons Tryz.func83 (by kernel_rfl) <|
  FTOk.cons Tryz.func84 (by kernel_rfl) <|
  FTOk.cons Tryz.func85 (by kernel_rfl) <|
  FTOk.cons Tryz.func86 (by kernel_rfl) <|
  FTOk.cons Tryz.func87 (by kernel_rfl) <|
  FTOk.cons Tryz.func88 (by kernel_rfl) <|
  FTOk.cons Tryz.func89 (by kernel_rfl) <|
  FTOk.cons Tryz.func90 (by kernel_rfl) <|
  FTOk.cons Tryz.func91 (by kernel_rfl) <|
  FTOk.cons Tryz.func92 (by kernel_rfl) <|
  FTOk.cons Tryz.func93 (by kernel_rfl) <|
  FTOk.cons Tryz.func94 (by kernel_rfl) <|
  FTOk.cons Tryz.func96 (by kernel_rfl) <|
  FTOk.cons Tryz.func97 (by kernel_rfl) <|
  FTOk.cons Tryz.func98 (by kernel_rfl) <|
  FTOk.cons Tryz.func99 (by kernel_rfl) <|
  FTOk.cons Tryz.func100 (by kernel_rfl) <|
  FTOk.cons Tryz.func101 (by kernel_rfl) <|
  FTOk.cons Tryz.func102 (by kernel_rfl) <|
  FTOk.cons Tryz.func103 (by kernel_rfl) <|
  FTOk.cons Tryz.func104 (by kernel_rfl) <|
  FTOk.cons Tryz.func105 (by kernel_rfl) <|
  FTOk.cons Tryz.func106 (by kernel_rfl) <|
  FTOk.cons Tryz.func107 (by kernel_rfl) <|
  FTOk.cons Tryz.func108 (by kernel_rfl) <|
  FTOk.cons Tryz.func109 (by kernel_rfl) <|
  FTOk.cons Tryz.func110 (by kernel_rfl) <|
  FTOk.cons Tryz.func111 (by kernel_rfl) <|
  FTOk.cons Tryz.func113 (by kernel_rfl) <|
  FTOk.cons Tryz.func114 (by kernel_rfl) <|
  FTOk.cons Tryz.func115 (by kernel_rfl) <|
  FTOk.cons Tryz.func116 (by kernel_rfl) <|
  FTOk.cons Tryz.func117 (by kernel_rfl) <|
  FTOk.cons Tryz.func118 (by kernel_rfl) <|
  FTOk.cons Tryz.func119 (by kernel_rfl) <|
  FTOk.cons Tryz.func120 (by kernel_rfl) <|
  FTOk.cons Tryz.func121 (by kernel_rfl) <|
  FTOk.cons Tryz.func122 (by kernel_rfl) <|
  FTOk.cons Tryz.func124 (by kernel_rfl) <|
  FTOk.cons Tryz.func125 (by kernel_rfl) <|
  FTOk.cons Tryz.func126 (by kernel_rfl) <|
  FTOk.cons Tryz.func127 (by kernel_rfl) <|
  FTOk.cons Tryz.func128 (by kernel_rfl) <|
  FTOk.cons Tryz.func129 (by kernel_rfl) <|
  FTOk.cons Tryz.func130 (by kernel_rfl) <|
  FTOk.cons Tryz.func131 (by kernel_rfl) <|
  FTOk.cons Tryz.func132 (by kernel_rfl) <|
  FTOk.cons Tryz.func133 (by kernel_rfl) <|
  FTOk.cons Tryz.func134 (by kernel_rfl) <|
  FTOk.cons Tryz.func135 (by kernel_rfl) <|
  FTOk.cons Tryz.func136 (by kernel_rfl) <|
  FTOk.cons Tryz.func139 (by kernel_rfl) <|
  FTOk.cons Tryz.func140 (by kernel_rfl) <|
  FTOk.cons Tryz.func141 (by kernel_rfl) <|
  FTOk.cons Tryz.func142 (by kernel_rfl) <|
  FTOk.cons Tryz.func143 (by kernel_rfl) <|
  FTOk.cons Tryz.func144 (by kernel_rfl) <|
  FTOk.cons Tryz.func145 (by kernel_rfl) <|
  FTOk.cons Tryz.func146 (by kernel_rfl) <|
  FTOk.cons Tryz.func147 (by kernel_rfl) <|
  FTOk.cons Tryz.func148 (by kernel_rfl) <|
  FTOk.cons Tryz.func149 (by kernel_rfl) <|
  FTOk.cons Tryz.func150 (by kernel_rfl) <|
  FTOk.cons Tryz.func151 (by kernel_rfl) <|
  FTOk.cons Tryz.func152 (by kernel_rfl) <|
  FTOk.cons Tryz.func153 (by kernel_rfl) <|
  FTOk.cons Tryz.func154 (by kernel_rfl) <|
  FTOk.cons Tryz.func155 (by kernel_rfl) <|
  FTOk.cons Tryz.func156 (by kernel_rfl) <|
  FTOk.cons Tryz.func157 (by kernel_rfl) <|
  FTOk.cons Tryz.func158 (by kernel_rfl) <|
  FTOk.cons Tryz.func159 (by kernel_rfl) <|
  FTOk.cons Tryz.func160 (by kernel_rfl) <|
  FTOk.cons Tryz.func161 (by kernel_rfl) <|
  FTOk.cons Tryz.func162 (by kernel_rfl) <|
  FTOk.cons Tryz.func163 (by kernel_rfl) <|
  FTOk.cons Tryz.func164 (by kernel_rfl) <|
  FTOk.cons Tryz.func165 (by kernel_rfl) <|
  FTOk.cons Tryz.func166 (by kernel_rfl) <|
  FTOk.cons Tryz.func167 (by kernel_rfl) <|
  FTOk.cons Tryz.func168 (by kernel_rfl) <|
  FTOk.cons Tryz.func169 (by kernel_rfl) <|
  FTOk.cons Tryz.func170 (by kernel_rfl) <|
  FTOk.cons Tryz.func171 (by kernel_rfl) <|
  FTOk.cons Tryz.func172 (by kernel_rfl) <|
  FTOk.cons Tryz.func173 (by kernel_rfl) <|
  FTOk.cons Tryz.func174 (by kernel_rfl) <|
  FTOk.cons Tryz.func175 (by kernel_rfl) <|
  FTOk.cons Tryz.func176 (by kernel_rfl) <|
  FTOk.cons Tryz.func208 (by kernel_rfl) <|
  FTOk.nil
theorem okM : Tryz.prog.follows .mixedOrders = true := by kernel_rfl
end Go.RX

namespace Go.RX.Au
/-- Where a byte stands first, or -1. -/
def idxFrom (c : UInt8) : Nat → List UInt8 → Int
  | _, [] => -1
  | i, b :: l => if b == c then (i : Int) else idxFrom c (i + 1) l
def idxB (l : List UInt8) (c : UInt8) : Int := idxFrom c 0 l
def pIndexByte (az : List SV) (_ : List Ck) : Option PRes :=
  match az with
  | [.str l, .int .u8 (.lit c)] => some { val := .int .i64 (.lit (idxB l c.toNat.toUInt8)) }
  | _ => none
def pCount (az : List SV) (_ : List Ck) : Option PRes :=
  match az with
  | [.str l, .str [c]] => some { val := .int .i64 (.lit (l.count c)) }
  | _ => none
def findBld (hp : List Ck) (b : Nat) : Option (Nat × Nat × Nat × E × E) :=
  match hp.findIdx? (fun c => match c with | .bld b' .. => b == b' | _ => false) with
  | some j => match hp[j]? with
    | some (.bld _ t e n a) => some (j, t, e, n, a)
    | _ => none
  | none => none
/-- (*strings.Builder).WriteByte. -/
def pWriteByte (az : List SV) (hp : List Ck) : Option PRes :=
  match az with
  | [.ptr b 0, .int .u8 c] =>
    match findBld hp b with
    | some (j, 93, 5, n, a) => some { val := .nili, vcs := bLe' (.lit 0) n ++ [bLe (eAdd n (.lit 1)) (.lit 140737488355328)], use := [j], new := [.bld b 93 5 (eAdd n (.lit 1)) (.upd a n c)] }
    | _ => none
  | _ => none
def bytesL (a : E) (n : Nat) : Option (List UInt8) :=
  match litsOf a n with
  | some l => if l.all (fun b => decide (0 ≤ b) && decide (b < 256)) then some (l.map fun b => UInt8.ofNat b.toNat) else none
  | none => none
/-- That numbers are bytes. -/
def byteVcs (a : E) (k : Nat) : List BE := ((List.range k).flatMap fun (j : Nat) => [bLe (.lit 0) (eSel a (.lit (j : Int))), bLe (eSel a (.lit (j : Int))) (.lit 255)]).filter fun b => b != .lit true
/-- (*strings.Builder).String, at bytes that are told: the builder is given up. -/
def pString (az : List SV) (hp : List Ck) : Option PRes :=
  match az with
  | [.ptr b 0] =>
    match findBld hp b with
    | some (j, 93, 5, .lit (.ofNat k), a) =>
      match bytesL a k with
      | some (x :: l) => some { val := .str (x :: l), use := [j], new := [] }
      | _ => if k = 0 then none else some { val := .strE (eBytes a (.lit k)), vcs := byteVcs a k, use := [j], new := [] }
    | _ => none
  | _ => none
def strsOf : List SV → Option (List (List UInt8))
  | [] => some []
  | .str l :: r => (strsOf r).map (l :: ·)
  | _ => none
def joinL (sep : List UInt8) : List (List UInt8) → List UInt8
  | [] => []
  | [x] => x
  | x :: r => x ++ sep ++ joinL sep r
/-- strings.Join, at strings that are told. -/
def pJoin (az : List SV) (hp : List Ck) : Option PRes :=
  match az with
  | [.sl b (.lit 0) 1 (.lit (.ofNat n)) (.lit (.ofNat m)), .str sep] =>
    match findAt hp b with
    | some (j, .row b' wr cs) =>
      match strsOf cs with
      | some xs => if xs.length = n ∧ n ≤ m ∧ n ≤ 1000 ∧ (joinL sep xs).length ≤ 1000000 then some { val := .str (joinL sep xs), use := [j], new := [.row b' wr cs] } else none
      | none => none
    | _ => none
  | _ => none
def pure (f : Nat) : Option (List SV → List Ck → Option PRes) :=
  match f with
  | 89 => some pIndexByte
  | 107 => some pCount
  | 53 => some pWriteByte
  | 47 => some pString
  | 38 => some pJoin
  | _ => none
end Go.RX.Au

namespace Go.RX.Sc
open Go.RX Go.RX.Au
/-- Bytes behind bytes. -/
def catB (a n : E) (s : SV) (e : E) : E :=
  match litNat n, s with
  | some k, .str l =>
    match litsOf a k with
    | some xs => .rowl (xs ++ l.map fun b => (b.toNat : Int))
    | none => .spl a n (eLen e) (eSby e)
  | _, _ => .spl a n (eLen e) (eSby e)
/-- (*strings.Builder).WriteString. -/
def pWriteStr (az : List SV) (hp : List Ck) : Option PRes :=
  match az with
  | [.ptr b 0, s] =>
    match findBld hp b, toStrE s with
    | some (j, 93, 5, n, a), some e => some { val := .tup [.int .i64 (eLen e), .nili], vcs := bLe' (.lit 0) n ++ bLe' (.lit 0) (eLen e) ++ bLe' (eAdd n (eLen e)) (.lit 140737488355328), use := [j], new := [.bld b 93 5 (eAdd n (eLen e)) (catB a n s e)] }
    | _, _ => none
  | _ => none
/-- (*strings.Builder).Len. -/
def pLen (az : List SV) (hp : List Ck) : Option PRes :=
  match az with
  | [.ptr b 0] =>
    match findBld hp b with
    | some (j, 93, 5, n, a) => some { val := .int .i64 n, vcs := bLe' (.lit 0) n, use := [j], new := [.bld b 93 5 n a] }
    | _ => none
  | _ => none
def pSmall (az : List SV) (_ : List Ck) : Option PRes :=
  match az with
  | [.int .i64 (.lit (.ofNat n))] => if n < 100 then some { val := .str (Lib.decDigits n) } else none
  | _ => none
def pAtoi (az : List SV) (_ : List Ck) : Option PRes :=
  match az with
  | [.str l] => match Lib.atoiAll l with
    | .ok v => if l.length ≤ 100 then some { val := .tup [.int .i64 (.lit v), .nili] } else none
    | _ => none
  | _ => none
def pParse (az : List SV) (_ : List Ck) : Option PRes :=
  match az with
  | [.str l, .int .i64 (.lit 10), .int .i64 (.lit 8)] => match Lib.parseUintB 8 l with
    | .ok v => if l.length ≤ 100 then some { val := .tup [.int .u64 (.lit v), .nili] } else none
    | _ => none
  | _ => none
/-- The strings of a slice of so many. -/
def strsAt (a : E) (n : Nat) : List E := (List.range n).map fun (j : Nat) => eAt2 a (.lit (j : Int))
def strLit : E → Option (List UInt8)
  | .rowl l => match mkStr (.rowl l) with
    | .str l => some l
    | _ => none
  | _ => none
def strLits : List E → Option (List (List UInt8))
  | [] => some []
  | e :: r => match strLit e, strLits r with
    | some l, some ls => some (l :: ls)
    | _, _ => none
def catAll (sep : E) : List E → E
  | [] => .rowl [0]
  | [x] => x
  | x :: y :: r => eCat (eCat x sep) (catAll sep (y :: r))
def lenAll (sep : Nat) : List E → E
  | [] => .lit 0
  | [x] => eLen x
  | x :: y :: r => eAdd (eAdd (eLen x) (.lit sep)) (lenAll sep (y :: r))
/-- strings.Join, at a slice of so many strings. -/
def pJoinS (az : List SV) (hp : List Ck) : Option PRes :=
  match az with
  | [.vv v, .str sep] =>
    match findOwn hp v with
    | some (j, .sli md v' 9 1 (.lit (.ofNat n)) [⟨.str, 1, a⟩]) =>
      if 1 ≤ n ∧ n ≤ 1000 ∧ sep.length ≤ 1000 then
        match strLits (strsAt a n) with
        | some xs => if (joinL sep xs).length ≤ 1000000 then some { val := .str (joinL sep xs), use := [j], new := [.sli md v' 9 1 (.lit n) [⟨.str, 1, a⟩]] } else none
        | none => some { val := .strE (catAll (rowB sep) (strsAt a n)), vcs := ((strsAt a n).flatMap fun s => bLe' (.lit 0) (eLen s)) ++ bLe' (lenAll sep.length (strsAt a n)) (.lit 140737488355328), use := [j], new := [.sli md v' 9 1 (.lit n) [⟨.str, 1, a⟩]] }
      else none
    | _ => none
  | az => pJoin az hp
def pure (f : Nat) : Option (List SV → List Ck → Option PRes) :=
  match f with
  | 45 => some pWriteStr
  | 46 => some pLen
  | 38 => some pJoinS
  | 119 => some pSmall
  | 116 => some pAtoi
  | 88 => some pParse
  | f => Au.pure f
end Go.RX.Sc

namespace Go.RX.Lp
open Go.RX
/-- The chunk that says what is laid. -/
def absIdx (hp : List Ck) : List Nat :=
  match hp.findIdx? (fun c => match c with | .abs _ => true | _ => false) with
  | some i => [i]
  | none => []
def rowIdx (az : List SV) (hp : List Ck) : List Nat :=
  match az with
  | .sl b _ _ _ _ :: _ => match hp.findIdx? (fun c => match c with | .row b' .. => b == b' | _ => false) with
    | some i => [i]
    | none => []
  | _ => []
/-- A call that answers a string. -/
def strCall : CallAnn := { use := fun _ hp => absIdx hp, inc := { a := 1 }, val := fun c => .strE (.avar c.a), new := fun _ h => h }
end Go.RX.Lp

namespace Go.RX.Sp
open Go.RX Go.RX.Lp
/-- The chunk that a slice stands for. -/
def sliIdx (az : List SV) (hp : List Ck) : List Nat :=
  match az with
  | .vv v :: _ => match hp.findIdx? (fun c => match c with | .sli _ v' .. => v == v' | _ => false) with
    | some i => [i]
    | none => []
  | _ => []
end Go.RX.Sp

namespace Go.RX.Su
open Go.RX Go.RX.Lp Go.RX.Sp
/-- A number of the document's. -/
def numCall : CallAnn := { use := fun _ _ => [], inc := { i := 1, bo := 1 }, val := fun c => .tup [.int .u64 (.var c.i), .bool (.var c.bo)], new := fun _ h => h }
def wholeCall : CallAnn := { use := fun _ _ => [], inc := { i := 1, bo := 1 }, val := fun c => .tup [.int .i64 (.var c.i), .bool (.var c.bo)], new := fun _ h => h }
def devCall : CallAnn := { use := fun _ _ => [], inc := { i := 2, bo := 1 }, val := fun c => .tup [.agg [.int .u8 (.var c.i), .int .u8 (.var (c.i + 1))], .bool (.var c.bo)], new := fun _ h => h }
/-- Bytes of a block of their own: a slice by its number, and whatever memory lies behind it. -/
def bytesCall : CallAnn := { use := fun _ hp => absIdx hp, inc := { i := 1, bo := 1, p := 1 }, val := fun c => .tup [.cvE (.var c.i), .bool (.var c.bo)], new := fun c _ => [.abs c.p] }
def calleesN (f : Nat) : Option CallAnn :=
  match f with
  | 67 => some numCall
  | _ => none
def calleesO (f : Nat) : Option CallAnn :=
  match f with
  | 65 => some devCall
  | 66 => some wholeCall
  | 67 => some numCall
  | 68 => some bytesCall
  | _ => none
/-- The words that grow: the last owned slice. -/
def growStr (c : Cnt) : Ck → Ck
  | .sli true _ t s _ _ => .sli true c.v t s (.var (c.i + 2)) [⟨.str, 1, .avar c.a⟩]
  | h => h
def growB (c : Cnt) : Ck → Ck
  | .sli true _ t s _ _ => .sli true c.v t s (.var (c.i + 2)) [⟨.int .u8, 1, .avar c.a⟩]
  | h => h
def loops (f id : Nat) : Option LoopAnn :=
  match f, id with
  | 67, 0 => some { inc := { i := 2 }, slots := fun c => [(6, .int .u64 (.var c.i)), (7, .int .i64 (.var (c.i + 1)))] }
  | 65, 0 => some { inc := { i := 1 }, slots := fun c => [(4, .int .i64 (.var c.i))] }
  | 68, 0 => some { pre := [.slot 4 5], inc := { i := 3, a := 1, v := 1 }, slots := fun c => [(6, .int .i64 (.var c.i)), (5, .int .u8 (.var (c.i + 1))), (4, .vv c.v)], hp := fun c h => h.map (growB c) }
  | 30, 0 => some { pre := [.slot 3 9], inc := { i := 3, a := 1, v := 1 }, slots := fun c => [(5, .int .i64 (.var c.i)), (4, .int .i64 (.var (c.i + 1))), (3, .vv c.v)], hp := fun c h => h.map (growStr c) }
  | _, _ => none
end Go.RX.Su

namespace Go.RX.Sv
open Go.RX Go.RX.Lp Go.RX.Sp
def wordsCall : CallAnn := { use := fun _ _ => [], inc := { i := 1, a := 1, v := 1 }, val := fun c => .vv c.v, new := fun c _ => [.sli true c.v 9 1 (.var c.i) [⟨.str, 1, .avar c.a⟩]] }
def mvE (i : Nat) : SV := .agg [.int .u8 (.var i), .int .u8 (.var (i + 1)), .int .u8 (.var (i + 2)), .int .u8 (.var (i + 3)), .int .u8 (.var (i + 4)), .int .i64 (.var (i + 5)), .int .u64 (.var (i + 6)), .cvE (.var (i + 7))]
/-- A move of words: what is owned may grow, the words stay. -/
def oneCall : CallAnn := { use := fun az hp => absIdx hp ++ sliIdx az hp, inc := { i := 9, p := 1 }, val := fun c => .tup [mvE c.i, .int .i64 (.var (c.i + 8))], new := fun c h => .abs c.p :: h.drop 1 }
def callees (f : Nat) : Option CallAnn :=
  match f with
  | 30 => some wordsCall
  | 31 => some oneCall
  | _ => none
def mCols (a : Nat) : List Col := [⟨.int .u8, 1, .avar a⟩, ⟨.int .u8, 1, .avar (a + 1)⟩, ⟨.int .u8, 1, .avar (a + 2)⟩, ⟨.int .u8, 1, .avar (a + 3)⟩, ⟨.int .u8, 1, .avar (a + 4)⟩, ⟨.int .i64, 1, .avar (a + 5)⟩, ⟨.int .u64, 1, .avar (a + 6)⟩, ⟨.cv, 1, .avar (a + 7)⟩]
def readNew (c : Cnt) : Ck → Ck
  | .abs _ => .abs c.p
  | .sli true _ 39 s _ _ => .sli true c.v 39 s (.var (c.i + 2)) (mCols c.a)
  | .sli true _ 3 s _ _ => .sli true (c.v + 1) 3 s (.var (c.i + 3)) [⟨.int .i64, 1, .avar (c.a + 8)⟩]
  | h => h
def loops (f id : Nat) : Option LoopAnn :=
  match f, id with
  | 9, 0 => some { pre := [.slot 6 39, .slot 7 3], inc := { i := 4, a := 9, v := 2, p := 1 }, slots := fun c => [(8, .int .i64 (.var c.i)), (9, .int .i64 (.var (c.i + 1))), (6, .vv c.v), (7, .vv (c.v + 1))], hp := fun c h => h.map (readNew c) }
  | 9, 2 => some { inc := { i := 1 }, slots := fun c => [(10, .int .i64 (.var c.i))] }
  | _, _ => none
end Go.RX.Sv

namespace Go.RX.Lf
open Go.RX Go.RX.Lp
def smallCall : CallAnn := { use := fun _ _ => [], inc := { a := 1 }, val := fun c => .strE (.avar c.a), new := fun _ h => h }
def numCall : CallAnn := { use := fun _ hp => absIdx hp, inc := { i := 1 }, val := fun c => .int .i64 (.var c.i), new := fun _ h => h }
def fmtCall : CallAnn := { use := fun az hp => rowIdx az hp, inc := { a := 1 }, val := fun _ => .tup [], new := fun c h => match h with | [.row b w _] => [.row b w [.seg .u8 24 (.avar c.a)]] | h => h }
def parseCall : CallAnn := { use := fun _ hp => absIdx hp, inc := { i := 1, bo := 1, v := 1 }, val := fun c => .tup [.int .u64 (.var c.i), .ifv (.var c.bo) c.v], new := fun _ h => h }
def callsF (f d : Nat) : Option CallAnn :=
  match f, d with
  | 93, 15 => some smallCall
  | 93, 17 => some numCall
  | 93, 21 => some fmtCall
  | _, _ => none
def callsN (f d : Nat) : Option CallAnn :=
  match f, d with
  | 57, 11 => some parseCall
  | 57, 20 => some strCall
  | _, _ => none
end Go.RX.Lf

namespace Go.RX.St
open Go.RX Go.RX.Lp Go.RX.Sp
def cutCall : CallAnn := { use := fun _ hp => absIdx hp, inc := { a := 2, bo := 1 }, val := fun c => .tup [.strE (.avar c.a), .strE (.avar (c.a + 1)), .bool (.var c.bo)], new := fun _ h => h }
def fitCall (k : IntKind) : CallAnn := { use := fun _ hp => absIdx hp, inc := { i := 1, bo := 1 }, val := fun c => .tup [.int k (.var c.i), .bool (.var c.bo)], new := fun _ h => h }
def atoiCall : CallAnn := { use := fun _ hp => absIdx hp, inc := { i := 1, bo := 1, v := 1 }, val := fun c => .tup [.int .i64 (.var c.i), .ifv (.var c.bo) c.v], new := fun _ h => h }
def calleesF (f : Nat) : Option CallAnn :=
  match f with
  | 88 => some Lf.parseCall
  | 71 => some strCall
  | _ => none
def calleesD (f : Nat) : Option CallAnn :=
  match f with
  | 56 => some cutCall
  | 148 => some (fitCall .u8)
  | _ => none
def hasCall : CallAnn := { use := fun _ _ => [], inc := { bo := 1 }, val := fun c => .bool (.var c.bo), new := fun _ h => h }
def idxCall : CallAnn := { use := fun _ _ => [], inc := { i := 1 }, val := fun c => .int .i64 (.var c.i), new := fun _ h => h }
def calleesB (f : Nat) : Option CallAnn :=
  match f with
  | 150 => some hasCall
  | 58 => some idxCall
  | _ => none
def growB (c : Cnt) : Ck → Ck
  | .sli true _ t s _ _ => .sli true c.v t s (.var (c.i + 1)) [⟨.int .u8, 1, .avar c.a⟩]
  | h => h
def loopsB (f id : Nat) : Option LoopAnn :=
  match f, id with
  | 118, 0 => some { pre := [.slot 4 5], inc := { i := 2, a := 1, v := 1 }, slots := fun c => [(5, .int .i64 (.var c.i)), (4, .vv c.v)], hp := fun c h => h.map (growB c) }
  | _, _ => none
def lastAbs (hp : List Ck) : List Nat :=
  match hp.reverse.findIdx? (fun c => match c with | .abs _ => true | _ => false) with
  | some i => [hp.length - 1 - i]
  | none => []
def firstAbs (hp : List Ck) : List Nat := absIdx hp
def onLaid (c : CallAnn) : CallAnn := { c with use := fun _ hp => firstAbs hp }
def bytesCall : CallAnn := { use := fun _ hp => lastAbs hp, inc := { i := 1, bo := 1, p := 1 }, val := fun c => .tup [.cvE (.var c.i), .bool (.var c.bo)], new := fun c _ => [.abs c.p] }
def pdevCall : CallAnn := { use := fun _ hp => firstAbs hp, inc := { i := 2, bo := 1 }, val := fun c => .tup [.agg [.int .u8 (.var c.i), .int .u8 (.var (c.i + 1))], .bool (.var c.bo)], new := fun _ h => h }
def wordsL : List (List UInt8 × List UInt8) := [([100, 105, 97, 108], [100, 110]), ([97, 110, 115, 119, 101, 114], [100]), ([100, 101, 99, 108, 105, 110, 101], [100]), ([104, 97, 110, 103], [100]), ([116, 105, 99, 107], [110]),
   ([100, 101, 108, 105, 118, 101, 114], [110]), ([100, 114, 111, 112], [110]), ([100, 111, 117, 98, 108, 101], [110]), ([116, 97, 109, 112, 101, 114], [110, 99]), ([105, 110, 106, 101, 99, 116], [100, 98]),
   ([99, 114, 101, 97, 116, 101], [100]), ([97, 100, 100], [100, 112]), ([107, 105, 99, 107], [100, 112]), ([108, 101, 97, 118, 101], [100]), ([102, 114, 97, 109, 101], [100, 98])]
/-- A kind's word and fields, the kind told. -/
def formV : List SV → SV
  | [.int .u8 (.lit k)] => match wordsL[(k - 1).toNat]? with
    | some (w, f) => .tup [.str w, .str f, .bool (.lit true)]
    | none => .tup [.str [], .str [], .bool (.lit false)]
  | _ => .undef
def formCall : CallAnn := { use := fun _ _ => [], val := fun _ => .undef, new := fun _ h => h, valOf := some fun az _ => formV az }
def calleesM (f : Nat) : Option CallAnn :=
  match f with
  | 115 => some pdevCall
  | 116 => some (onLaid atoiCall)
  | 35 => some (onLaid strCall)
  | 117 => some (onLaid (fitCall .u64))
  | 118 => some bytesCall
  | 33 => some formCall
  | _ => none
end Go.RX.St
