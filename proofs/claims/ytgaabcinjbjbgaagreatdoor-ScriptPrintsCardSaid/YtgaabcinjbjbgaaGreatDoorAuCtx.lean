/- The types and functions of the seat's program, for the executor; printed by a program of ours (wip/tools/genctx.lean). -/
import Derived.Test.YtgaabcinjbjbgaaGreatDoorProg
import Derived.Test.YtgaabcinjbjbgaaGreatDoorRyZ
import Derived.KernelRfl
namespace Go.RX
open Go.Proofs
set_option maxRecDepth 100000
def TT : List TI := [
  ⟨2, .int .i64, 1, 8, [.int .i64 (.lit 0)], []⟩,
  ⟨3, .int .i64, 1, 8, [.int .i64 (.lit 0)], []⟩,
  ⟨4, .bool, 1, 1, [.bool (.lit false)], []⟩,
  ⟨5, .int .u8, 1, 1, [.int .u8 (.lit 0)], []⟩,
  ⟨9, .str, 1, 16, [.str []], []⟩,
  ⟨21, .int .i32, 1, 4, [.int .i32 (.lit 0)], []⟩,
  ⟨23, .slice 39, 1, 24, [.nils], []⟩,
  ⟨24, .int .i64, 1, 8, [.int .i64 (.lit 0)], []⟩,
  ⟨27, .slice 3, 1, 24, [.nils], []⟩,
  ⟨35, .struct [(5, 0), (5, 1)], 2, 2, [.int .u8 (.lit 0), .int .u8 (.lit 0)], [(some .u8, 2)]⟩,
  ⟨36, .int .u64, 1, 8, [.int .u64 (.lit 0)], []⟩,
  ⟨37, .slice 5, 1, 24, [.nils], []⟩,
  ⟨39, .struct [(5, 0), (35, 1), (35, 3), (3, 5), (36, 6), (37, 7)], 8, 48, [.int .u8 (.lit 0), .int .u8 (.lit 0), .int .u8 (.lit 0), .int .u8 (.lit 0), .int .u8 (.lit 0), .int .i64 (.lit 0), .int .u64 (.lit 0), .nils], []⟩,
  ⟨43, .arr 16 5, 16, 16, [.seg .u8 16 (.lit 0)], [(some .u8, 16)]⟩,
  ⟨45, .struct [(4, 0), (24, 1), (43, 2), (37, 18)], 19, 56, [.bool (.lit false), .int .i64 (.lit 0), .seg .u8 16 (.lit 0), .nils], []⟩,
  ⟨53, .func, 1, 8, [.nilf], []⟩,
  ⟨59, .struct [(5, 0), (3, 1), (35, 2), (43, 4)], 20, 40, [.int .u8 (.lit 0), .int .i64 (.lit 0), .int .u8 (.lit 0), .int .u8 (.lit 0), .seg .u8 16 (.lit 0)], [(some .u8, 1), (some .i64, 1), (some .u8, 18)]⟩,
  ⟨62, .struct [(5, 0), (3, 1), (35, 2), (43, 4)], 20, 40, [.int .u8 (.lit 0), .int .i64 (.lit 0), .int .u8 (.lit 0), .int .u8 (.lit 0), .seg .u8 16 (.lit 0)], [(some .u8, 1), (some .i64, 1), (some .u8, 18)]⟩,
  ⟨68, .slice 59, 1, 24, [.nils], []⟩,
  ⟨69, .arr 8 3, 8, 64, [.seg .i64 8 (.lit 0)], [(some .i64, 8)]⟩,
  ⟨72, .func, 1, 8, [.nilf], []⟩,
  ⟨77, .func, 1, 8, [.nilf], []⟩,
  ⟨78, .slice 9, 1, 24, [.nils], []⟩,
  ⟨91, .ptr 93, 1, 8, [.nilp], []⟩,
  ⟨93, .bld [(91, 0), (37, 1)] 5, 2, 32, [.nilp, .nils], []⟩,
  ⟨95, .iface, 1, 16, [.nili], []⟩,
  ⟨101, .arr 32 5, 32, 32, [.seg .u8 32 (.lit 0)], [(some .u8, 32)]⟩,
  ⟨102, .arr 32 5, 32, 32, [.seg .u8 32 (.lit 0)], [(some .u8, 32)]⟩,
  ⟨104, .struct [(5, 0), (35, 1), (36, 3), (43, 4), (5, 20), (35, 21), (102, 23), (5, 55)], 56, 72, [.int .u8 (.lit 0), .int .u8 (.lit 0), .int .u8 (.lit 0), .int .u64 (.lit 0), .seg .u8 16 (.lit 0), .int .u8 (.lit 0), .int .u8 (.lit 0), .int .u8 (.lit 0), .seg .u8 32 (.lit 0), .int .u8 (.lit 0)], [(some .u8, 3), (some .u64, 1), (some .u8, 52)]⟩,
  ⟨105, .slice 62, 1, 24, [.nils], []⟩,
  ⟨108, .arr 8 5, 8, 8, [.seg .u8 8 (.lit 0)], [(some .u8, 8)]⟩,
  ⟨110, .slice 104, 1, 24, [.nils], []⟩,
  ⟨112, .struct [(35, 0), (37, 2)], 3, 32, [.int .u8 (.lit 0), .int .u8 (.lit 0), .nils], []⟩,
  ⟨113, .slice 112, 1, 24, [.nils], []⟩,
  ⟨116, .int .u64, 1, 8, [.int .u64 (.lit 0)], []⟩,
  ⟨124, .func, 1, 8, [.nilf], []⟩,
  ⟨129, .func, 1, 8, [.nilf], []⟩,
  ⟨140, .ptr 5, 1, 8, [.nilp], []⟩,
  ⟨141, .ptr 178, 1, 8, [.nilp], []⟩,
  ⟨143, .map 43 145, 1, 8, [.nilm], []⟩,
  ⟨145, .struct [], 0, 0, [], []⟩,
  ⟨148, .slice 35, 1, 24, [.nils], []⟩,
  ⟨151, .func, 1, 8, [.nilf], []⟩,
  ⟨152, .slice 158, 1, 24, [.nils], []⟩,
  ⟨158, .struct [(43, 0), (5, 16), (4, 17), (5, 18), (36, 19), (36, 20), (36, 21)], 22, 48, [.seg .u8 16 (.lit 0), .int .u8 (.lit 0), .bool (.lit false), .int .u8 (.lit 0), .int .u64 (.lit 0), .int .u64 (.lit 0), .int .u64 (.lit 0)], [(some .u8, 17), (none, 1), (some .u8, 1), (some .u64, 3)]⟩,
  ⟨160, .func, 1, 8, [.nilf], []⟩,
  ⟨167, .slice 169, 1, 24, [.nils], []⟩,
  ⟨169, .struct [(3, 0), (3, 1)], 2, 16, [.int .i64 (.lit 0), .int .i64 (.lit 0)], [(some .i64, 2)]⟩,
  ⟨171, .ptr 39, 1, 8, [.nilp], []⟩,
  ⟨175, .map 43 208, 1, 8, [.nilm], []⟩,
  ⟨176, .map 35 179, 1, 8, [.nilm], []⟩,
  ⟨178, .struct [(108, 0), (175, 8), (176, 9), (36, 10)], 11, 32, [.seg .u8 8 (.lit 0), .nilm, .nilm, .int .u64 (.lit 0)], []⟩,
  ⟨179, .ptr 181, 1, 8, [.nilp], []⟩,
  ⟨181, .struct [(5, 0), (43, 1), (4, 17), (5, 18), (35, 19), (36, 21), (36, 22), (143, 23), (152, 24)], 25, 72, [.int .u8 (.lit 0), .seg .u8 16 (.lit 0), .bool (.lit false), .int .u8 (.lit 0), .int .u8 (.lit 0), .int .u8 (.lit 0), .int .u64 (.lit 0), .int .u64 (.lit 0), .nilm, .nils], []⟩,
  ⟨185, .ptr 224, 1, 8, [.nilp], []⟩,
  ⟨194, .func, 1, 8, [.nilf], []⟩,
  ⟨202, .arr 24 5, 24, 24, [.seg .u8 24 (.lit 0)], [(some .u8, 24)]⟩,
  ⟨208, .ptr 211, 1, 8, [.nilp], []⟩,
  ⟨211, .struct [(35, 0), (5, 2), (148, 3), (4, 4), (4, 5), (35, 6), (4, 8), (102, 9)], 41, 72, [.int .u8 (.lit 0), .int .u8 (.lit 0), .int .u8 (.lit 0), .nils, .bool (.lit false), .bool (.lit false), .int .u8 (.lit 0), .int .u8 (.lit 0), .bool (.lit false), .seg .u8 32 (.lit 0)], []⟩,
  ⟨221, .struct [(152, 0), (3, 1)], 2, 32, [.nils, .int .i64 (.lit 0)], []⟩,
  ⟨222, .ptr 221, 1, 8, [.nilp], []⟩,
  ⟨224, .struct [(222, 0)], 1, 8, [.nilp], []⟩,
  ⟨240, .arr 20 36, 20, 160, [.seg .u64 20 (.lit 0)], [(some .u64, 20)]⟩,
  ⟨241, .int .u32, 1, 4, [.int .u32 (.lit 0)], []⟩,
  ⟨242, .arr 65 5, 65, 65, [.seg .u8 65 (.lit 0)], [(some .u8, 65)]⟩,
  ⟨249, .ptr 270, 1, 8, [.nilp], []⟩,
  ⟨259, .struct [(9, 0), (9, 1), (95, 2)], 3, 48, [.str [], .str [], .nili], []⟩,
  ⟨261, .arr 256 5, 256, 256, [.seg .u8 256 (.lit 0)], [(some .u8, 256)]⟩,
  ⟨263, .struct [(5, 0), (5, 1)], 2, 2, [.int .u8 (.lit 0), .int .u8 (.lit 0)], [(some .u8, 2)]⟩,
  ⟨264, .arr 16 263, 32, 32, [.int .u8 (.lit 0), .int .u8 (.lit 0), .int .u8 (.lit 0), .int .u8 (.lit 0), .int .u8 (.lit 0), .int .u8 (.lit 0), .int .u8 (.lit 0), .int .u8 (.lit 0), .int .u8 (.lit 0), .int .u8 (.lit 0), .int .u8 (.lit 0), .int .u8 (.lit 0), .int .u8 (.lit 0), .int .u8 (.lit 0), .int .u8 (.lit 0), .int .u8 (.lit 0), .int .u8 (.lit 0), .int .u8 (.lit 0), .int .u8 (.lit 0), .int .u8 (.lit 0), .int .u8 (.lit 0), .int .u8 (.lit 0), .int .u8 (.lit 0), .int .u8 (.lit 0), .int .u8 (.lit 0), .int .u8 (.lit 0), .int .u8 (.lit 0), .int .u8 (.lit 0), .int .u8 (.lit 0), .int .u8 (.lit 0), .int .u8 (.lit 0), .int .u8 (.lit 0)], [(some .u8, 32)]⟩,
  ⟨270, .struct [(37, 0), (4, 1)], 2, 32, [.nils, .bool (.lit false)], []⟩,
  ⟨274, .struct [(9, 0)], 1, 16, [.str []], []⟩,
  ⟨275, .arr 64 5, 64, 64, [.seg .u8 64 (.lit 0)], [(some .u8, 64)]⟩]
theorem okT : checkT Tryz.prog TT = true := by kernel_rfl
noncomputable def FT : List (Nat × Func) := [(2, Tryz.f2), (3, Tryz.f3), (4, Tryz.f4), (5, Tryz.f5), (6, Tryz.f6), (7, Tryz.f7), (8, Tryz.f8), (9, Tryz.f9), (10, Tryz.f10), (11, Tryz.f11), (12, Tryz.f12), (13, Tryz.f13), (14, Tryz.f14), (15, Tryz.f15), (16, Tryz.f16), (17, Tryz.f17), (18, Tryz.f18), (19, Tryz.f19), (20, Tryz.f20), (21, Tryz.f21), (22, Tryz.f22), (23, Tryz.f23), (24, Tryz.f24), (25, Tryz.f25), (26, Tryz.f26), (27, Tryz.f27), (28, Tryz.f28), (29, Tryz.f29), (30, Tryz.f30), (31, Tryz.f31), (32, Tryz.f32), (33, Tryz.f33), (34, Tryz.f34), (35, Tryz.f35), (36, Tryz.f36), (37, Tryz.f37), (38, Tryz.f38), (39, Tryz.f39), (40, Tryz.f40), (41, Tryz.f41), (42, Tryz.f42), (43, Tryz.f43), (44, Tryz.f44), (45, Tryz.f45), (46, Tryz.f46), (47, Tryz.f47), (48, Tryz.f48), (49, Tryz.f49), (50, Tryz.f50), (51, Tryz.f51), (52, Tryz.f52), (53, Tryz.f53), (54, Tryz.f54), (55, Tryz.f55), (56, Tryz.f56), (57, Tryz.f57), (58, Tryz.f58), (59, Tryz.f59), (60, Tryz.f60), (61, Tryz.f61), (62, Tryz.f62), (63, Tryz.f63), (64, Tryz.f64), (65, Tryz.f65), (66, Tryz.f66), (67, Tryz.f67), (68, Tryz.f68), (69, Tryz.f69), (70, Tryz.f70), (71, Tryz.f71), (72, Tryz.f72), (73, Tryz.f73), (74, Tryz.f74), (75, Tryz.f75), (76, Tryz.f76), (77, Tryz.f77), (78, Tryz.f78), (79, Tryz.f79), (80, Tryz.f80), (81, Tryz.f81), (82, Tryz.f82), (83, Tryz.f83), (84, Tryz.f84), (85, Tryz.f85), (86, Tryz.f86), (87, Tryz.f87), (88, Tryz.f88), (89, Tryz.f89), (90, Tryz.f90), (91, Tryz.f91), (92, Tryz.f92), (93, Tryz.f93), (94, Tryz.f94), (96, Tryz.f96), (97, Tryz.f97), (98, Tryz.f98), (99, Tryz.f99), (100, Tryz.f100), (101, Tryz.f101), (102, Tryz.f102), (103, Tryz.f103), (104, Tryz.f104), (105, Tryz.f105), (106, Tryz.f106), (107, Tryz.f107), (108, Tryz.f108), (109, Tryz.f109), (110, Tryz.f110), (111, Tryz.f111), (113, Tryz.f113), (114, Tryz.f114), (115, Tryz.f115), (116, Tryz.f116), (117, Tryz.f117), (118, Tryz.f118), (119, Tryz.f119), (120, Tryz.f120), (121, Tryz.f121), (122, Tryz.f122), (124, Tryz.f124), (125, Tryz.f125), (126, Tryz.f126), (127, Tryz.f127), (128, Tryz.f128), (129, Tryz.f129), (130, Tryz.f130), (131, Tryz.f131), (132, Tryz.f132), (133, Tryz.f133), (134, Tryz.f134), (135, Tryz.f135), (136, Tryz.f136), (139, Tryz.f139), (140, Tryz.f140), (141, Tryz.f141), (142, Tryz.f142), (143, Tryz.f143), (144, Tryz.f144), (145, Tryz.f145), (146, Tryz.f146), (147, Tryz.f147), (148, Tryz.f148), (149, Tryz.f149), (150, Tryz.f150), (151, Tryz.f151), (152, Tryz.f152), (153, Tryz.f153), (154, Tryz.f154), (155, Tryz.f155), (156, Tryz.f156), (157, Tryz.f157), (158, Tryz.f158), (159, Tryz.f159), (160, Tryz.f160), (161, Tryz.f161), (162, Tryz.f162), (163, Tryz.f163), (164, Tryz.f164), (165, Tryz.f165), (166, Tryz.f166), (167, Tryz.f167), (168, Tryz.f168), (169, Tryz.f169), (170, Tryz.f170), (171, Tryz.f171), (172, Tryz.f172), (173, Tryz.f173), (174, Tryz.f174), (175, Tryz.f175), (176, Tryz.f176), (208, Tryz.f208)]
theorem okFT : FTOk 
  Tryz.prog FT :=
  FTOk.cons Tryz.func2 (by kernel_rfl) <|
  FTOk.cons Tryz.func3 (by kernel_rfl) <|
  FTOk.cons Tryz.func4 (by kernel_rfl) <|
  FTOk.cons Tryz.func5 (by kernel_rfl) <|
  FTOk.cons Tryz.func6 (by kernel_rfl) <|
  FTOk.cons Tryz.func7 (by kernel_rfl) <|
  FTOk.cons Tryz.func8 (by kernel_rfl) <|
  FTOk.cons Tryz.func9 (by kernel_rfl) <|
  FTOk.cons Tryz.func10 (by kernel_rfl) <|
  FTOk.cons Tryz.func11 (by kernel_rfl) <|
  FTOk.cons Tryz.func12 (by kernel_rfl) <|
  FTOk.cons Tryz.func13 (by kernel_rfl) <|
  FTOk.cons Tryz.func14 (by kernel_rfl) <|
  FTOk.cons Tryz.func15 (by kernel_rfl) <|
  FTOk.cons Tryz.func16 (by kernel_rfl) <|
  FTOk.cons Tryz.func17 (by kernel_rfl) <|
  FTOk.cons Tryz.func18 (by kernel_rfl) <|
  FTOk.cons Tryz.func19 (by kernel_rfl) <|
  FTOk.cons Tryz.func20 (by kernel_rfl) <|
  FTOk.cons Tryz.func21 (by kernel_rfl) <|
  FTOk.cons Tryz.func22 (by kernel_rfl) <|
  FTOk.cons Tryz.func23 (by kernel_rfl) <|
  FTOk.cons Tryz.func24 (by kernel_rfl) <|
  FTOk.cons Tryz.func25 (by kernel_rfl) <|
  FTOk.cons Tryz.func26 (by kernel_rfl) <|
  FTOk.cons Tryz.func27 (by kernel_rfl) <|
  FTOk.cons Tryz.func28 (by kernel_rfl) <|
  FTOk.cons Tryz.func29 (by kernel_rfl) <|
  FTOk.cons Tryz.func30 (by kernel_rfl) <|
  FTOk.cons Tryz.func31 (by kernel_rfl) <|
  FTOk.cons Tryz.func32 (by kernel_rfl) <|
  FTOk.cons Tryz.func33 (by kernel_rfl) <|
  FTOk.cons Tryz.func34 (by kernel_rfl) <|
  FTOk.cons Tryz.func35 (by kernel_rfl) <|
  FTOk.cons Tryz.func36 (by kernel_rfl) <|
  FTOk.cons Tryz.func37 (by kernel_rfl) <|
  FTOk.cons Tryz.func38 (by kernel_rfl) <|
  FTOk.cons Tryz.func39 (by kernel_rfl) <|
  FTOk.cons Tryz.func40 (by kernel_rfl) <|
  FTOk.cons Tryz.func41 (by kernel_rfl) <|
  FTOk.cons Tryz.func42 (by kernel_rfl) <|
  FTOk.cons Tryz.func43 (by kernel_rfl) <|
  FTOk.cons Tryz.func44 (by kernel_rfl) <|
  FTOk.cons Tryz.func45 (by kernel_rfl) <|
  FTOk.cons Tryz.func46 (by kernel_rfl) <|
  FTOk.cons Tryz.func47 (by kernel_rfl) <|
  FTOk.cons Tryz.func48 (by kernel_rfl) <|
  FTOk.cons Tryz.func49 (by kernel_rfl) <|
  FTOk.cons Tryz.func50 (by kernel_rfl) <|
  FTOk.cons Tryz.func51 (by kernel_rfl) <|
  FTOk.cons Tryz.func52 (by kernel_rfl) <|
  FTOk.cons Tryz.func53 (by kernel_rfl) <|
  FTOk.cons Tryz.func54 (by kernel_rfl) <|
  FTOk.cons Tryz.func55 (by kernel_rfl) <|
  FTOk.cons Tryz.func56 (by kernel_rfl) <|
  FTOk.cons Tryz.func57 (by kernel_rfl) <|
  FTOk.cons Tryz.func58 (by kernel_rfl) <|
  FTOk.cons Tryz.func59 (by kernel_rfl) <|
  FTOk.cons Tryz.func60 (by kernel_rfl) <|
  FTOk.cons Tryz.func61 (by kernel_rfl) <|
  FTOk.cons Tryz.func62 (by kernel_rfl) <|
  FTOk.cons Tryz.func63 (by kernel_rfl) <|
  FTOk.cons Tryz.func64 (by kernel_rfl) <|
  FTOk.cons Tryz.func65 (by kernel_rfl) <|
  FTOk.cons Tryz.func66 (by kernel_rfl) <|
  FTOk.cons Tryz.func67 (by kernel_rfl) <|
  FTOk.cons Tryz.func68 (by kernel_rfl) <|
  FTOk.cons Tryz.func69 (by kernel_rfl) <|
  FTOk.cons Tryz.func70 (by kernel_rfl) <|
  FTOk.cons Tryz.func71 (by kernel_rfl) <|
  FTOk.cons Tryz.func72 (by kernel_rfl) <|
  FTOk.cons Tryz.func73 (by kernel_rfl) <|
  FTOk.cons Tryz.func74 (by kernel_rfl) <|
  FTOk.cons Tryz.func75 (by kernel_rfl) <|
  FTOk.cons Tryz.func76 (by kernel_rfl) <|
  FTOk.cons Tryz.func77 (by kernel_rfl) <|
  FTOk.cons Tryz.func78 (by kernel_rfl) <|
  FTOk.cons Tryz.func79 (by kernel_rfl) <|
  FTOk.cons Tryz.func80 (by kernel_rfl) <|
  FTOk.cons Tryz.func81 (by kernel_rfl) <|
  FTOk.cons Tryz.func82 (by kernel_rfl) <|
  FTOk.cons Tryz.func83 (by kernel_rfl) <|
  FTOk.cons Tryz.func84 (by kernel_rfl) <|
  FTOk.cons Tryz.func85 (by kernel_rfl) <|
  FTOk.cons Tryz.func86 (by kernel_rfl) <|
  FTOk.cons Tryz.func87 (by kernel_rfl) <|
  FTOk.cons Tryz.func88 (by kernel_rfl) <|
  FTOk.cons Tryz.func89 (by kernel_rfl) <|
  FTOk.cons Tryz.func90 (by kernel_rfl) <|
  FTOk.cons Tryz.func91 (by kernel_rfl) <|
  FTOk.cons Tryz.func92 (by kernel_rfl) <|
  FTOk.cons Tryz.func93 (by kernel_rfl) <|
  FTOk.cons Tryz.func94 (by kernel_rfl) <|
  FTOk.cons Tryz.func96 (by kernel_rfl) <|
  FTOk.cons Tryz.func97 (by kernel_rfl) <|
  FTOk.cons Tryz.func98 (by kernel_rfl) <|
  FTOk.cons Tryz.func99 (by kernel_rfl) <|
  FTOk.cons Tryz.func100 (by kernel_rfl) <|
  FTOk.cons Tryz.func101 (by kernel_rfl) <|
  FTOk.cons Tryz.func102 (by kernel_rfl) <|
  FTOk.cons Tryz.func103 (by kernel_rfl) <|
  FTOk.cons Tryz.func104 (by kernel_rfl) <|
  FTOk.cons Tryz.func105 (by kernel_rfl) <|
  FTOk.cons Tryz.func106 (by kernel_rfl) <|
  FTOk.cons Tryz.func107 (by kernel_rfl) <|
  FTOk.cons Tryz.func108 (by kernel_rfl) <|
  FTOk.cons Tryz.func109 (by kernel_rfl) <|
  FTOk.cons Tryz.func110 (by kernel_rfl) <|
  FTOk.cons Tryz.func111 (by kernel_rfl) <|
  FTOk.cons Tryz.func113 (by kernel_rfl) <|
  FTOk.cons Tryz.func114 (by kernel_rfl) <|
  FTOk.cons Tryz.func115 (by kernel_rfl) <|
  FTOk.cons Tryz.func116 (by kernel_rfl) <|
  FTOk.cons Tryz.func117 (by kernel_rfl) <|
  FTOk.cons Tryz.func118 (by kernel_rfl) <|
  FTOk.cons Tryz.func119 (by kernel_rfl) <|
  FTOk.cons Tryz.func120 (by kernel_rfl) <|
  FTOk.cons Tryz.func121 (by kernel_rfl) <|
  FTOk.cons Tryz.func122 (by kernel_rfl) <|
  FTOk.cons Tryz.func124 (by kernel_rfl) <|
  FTOk.cons Tryz.func125 (by kernel_rfl) <|
  FTOk.cons Tryz.func126 (by kernel_rfl) <|
  FTOk.cons Tryz.func127 (by kernel_rfl) <|
  FTOk.cons Tryz.func128 (by kernel_rfl) <|
  FTOk.cons Tryz.func129 (by kernel_rfl) <|
  FTOk.cons Tryz.func130 (by kernel_rfl) <|
  FTOk.cons Tryz.func131 (by kernel_rfl) <|
  FTOk.cons Tryz.func132 (by kernel_rfl) <|
  FTOk.cons Tryz.func133 (by kernel_rfl) <|
  FTOk.cons Tryz.func134 (by kernel_rfl) <|
  FTOk.cons Tryz.func135 (by kernel_rfl) <|
  FTOk.cons Tryz.func136 (by kernel_rfl) <|
  FTOk.cons Tryz.func139 (by kernel_rfl) <|
  FTOk.cons Tryz.func140 (by kernel_rfl) <|
  FTOk.cons Tryz.func141 (by kernel_rfl) <|
  FTOk.cons Tryz.func142 (by kernel_rfl) <|
  FTOk.cons Tryz.func143 (by kernel_rfl) <|
  FTOk.cons Tryz.func144 (by kernel_rfl) <|
  FTOk.cons Tryz.func145 (by kernel_rfl) <|
  FTOk.cons Tryz.func146 (by kernel_rfl) <|
  FTOk.cons Tryz.func147 (by kernel_rfl) <|
  FTOk.cons Tryz.func148 (by kernel_rfl) <|
  FTOk.cons Tryz.func149 (by kernel_rfl) <|
  FTOk.cons Tryz.func150 (by kernel_rfl) <|
  FTOk.cons Tryz.func151 (by kernel_rfl) <|
  FTOk.cons Tryz.func152 (by kernel_rfl) <|
  FTOk.cons Tryz.func153 (by kernel_rfl) <|
  FTOk.cons Tryz.func154 (by kernel_rfl) <|
  FTOk.cons Tryz.func155 (by kernel_rfl) <|
  FTOk.cons Tryz.func156 (by kernel_rfl) <|
  FTOk.cons Tryz.func157 (by kernel_rfl) <|
  FTOk.cons Tryz.func158 (by kernel_rfl) <|
  FTOk.cons Tryz.func159 (by kernel_rfl) <|
  FTOk.cons Tryz.func160 (by kernel_rfl) <|
  FTOk.cons Tryz.func161 (by kernel_rfl) <|
  FTOk.cons Tryz.func162 (by kernel_rfl) <|
  FTOk.cons Tryz.func163 (by kernel_rfl) <|
  FTOk.cons Tryz.func164 (by kernel_rfl) <|
  FTOk.cons Tryz.func165 (by kernel_rfl) <|
  FTOk.cons Tryz.func166 (by kernel_rfl) <|
  FTOk.cons Tryz.func167 (by kernel_rfl) <|
  FTOk.cons Tryz.func168 (by kernel_rfl) <|
  FTOk.cons Tryz.func169 (by kernel_rfl) <|
  FTOk.cons Tryz.func170 (by kernel_rfl) <|
  FTOk.cons Tryz.func171 (by kernel_rfl) <|
  FTOk.cons Tryz.func172 (by kernel_rfl) <|
  FTOk.cons Tryz.func173 (by kernel_rfl) <|
  FTOk.cons Tryz.func174 (by kernel_rfl) <|
  FTOk.cons Tryz.func175 (by kernel_rfl) <|
  FTOk.cons Tryz.func176 (by kernel_rfl) <|
  FTOk.cons Tryz.func208 (by kernel_rfl) <|
  FTOk.nil
theorem okM : Tryz.prog.follows .mixedOrders = true := by kernel_rfl
end Go.RX
