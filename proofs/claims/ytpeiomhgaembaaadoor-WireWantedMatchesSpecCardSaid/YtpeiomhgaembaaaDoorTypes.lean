/-
  The types of this seat's program, as a table. No condition.
-/
import Derived.Test.YtpeiomhgaembaaaDoorProg
import Derived.Test.YtpeiomhgaembaaaDoorTypB
import Derived.KernelRfl
import Derived.Shelf.Abstract
import Derived.Tactics
import Derived.WalkKit
import Derived.Ground.NamesProg
import Derived.Shelf.Lay
import Derived.Shelf.Strings.SlTrimAscii
set_option linter.unusedVariables false
namespace Go.Proofs.YtpeiomhgaembaaaDoor
open Go Go.RowKit Go.Proofs.YtpeiomhgaembaaaDoor.Eng
/-- The types of this seat's program, as a table. -/
def ti1 : TI := ⟨.other, 1, 8, .nilFunc⟩
def ti2 : TI := ⟨.int .i64, 1, 8, (.int .i64 0)⟩
def ti3 : TI := ⟨.int .i64, 1, 8, (.int .i64 0)⟩
def ti4 : TI := ⟨.bool, 1, 1, (.bool false)⟩
def ti5 : TI := ⟨.int .u8, 1, 1, (.int .u8 0)⟩
def ti9 : TI := ⟨.str, 1, 16, (.string ⟨#[]⟩)⟩
def ti12 : TI := ⟨.int .u64, 1, 8, (.int .u64 0)⟩
def ti17 : TI := ⟨.ptr 202, 1, 8, (.pointer none)⟩
def ti20 : TI := ⟨.other, 1, 16, .nilIface⟩
def ti21 : TI := ⟨.int .i32, 1, 4, (.int .i32 0)⟩
def ti22 : TI := ⟨.slice 30, 1, 24, (.slice none 0 0)⟩
def ti23 : TI := ⟨.slice 28, 1, 24, (.slice none 0 0)⟩
def ti24 : TI := ⟨.int .i64, 1, 8, (.int .i64 0)⟩
def ti26 : TI := ⟨.other, 1, 8, .nilFunc⟩
def ti27 : TI := ⟨.other, 1, 8, .nilFunc⟩
def ti28 : TI := ⟨.slice 9, 1, 24, (.slice none 0 0)⟩
def ti29 : TI := ⟨.struct [(0, 9), (1, 3)], 2, 24, (.agg #[(.string ⟨#[]⟩), (.int .i64 0)])⟩
def ti30 : TI := ⟨.struct [(0, 9), (1, 3)], 2, 24, (.agg #[(.string ⟨#[]⟩), (.int .i64 0)])⟩
def ti31 : TI := ⟨.other, 1, 8, .nilFunc⟩
def ti32 : TI := ⟨.slice 5, 1, 24, (.slice none 0 0)⟩
def ti33 : TI := ⟨.other, 1, 8, .nilFunc⟩
def ti34 : TI := ⟨.slice 63, 1, 24, (.slice none 0 0)⟩
def ti36 : TI := ⟨.other, 1, 8, .nilFunc⟩
def ti37 : TI := ⟨.other, 1, 8, .nilFunc⟩
def ti38 : TI := ⟨.other, 1, 8, .nilFunc⟩
def ti39 : TI := ⟨.other, 1, 8, .nilFunc⟩
def ti40 : TI := ⟨.other, 1, 8, .nilFunc⟩
def ti41 : TI := ⟨.other, 1, 8, .nilFunc⟩
def ti43 : TI := ⟨.other, 1, 8, .nilFunc⟩
def ti44 : TI := ⟨.other, 1, 8, .nilFunc⟩
def ti45 : TI := ⟨.other, 1, 8, .nilFunc⟩
def ti46 : TI := ⟨.other, 1, 8, .nilFunc⟩
def ti47 : TI := ⟨.other, 1, 8, .nilFunc⟩
def ti49 : TI := ⟨.other, 1, 8, .nilFunc⟩
def ti50 : TI := ⟨.other, 1, 8, .nilFunc⟩
def ti52 : TI := ⟨.other, 1, 8, .nilFunc⟩
def ti53 : TI := ⟨.other, 1, 8, .nilFunc⟩
def ti54 : TI := ⟨.slice 3, 1, 24, (.slice none 0 0)⟩
def ti55 : TI := ⟨.other, 1, 8, .nilFunc⟩
def ti56 : TI := ⟨.other, 1, 8, .nilFunc⟩
def ti57 : TI := ⟨.other, 1, 8, .nilFunc⟩
def ti58 : TI := ⟨.slice 70, 1, 24, (.slice none 0 0)⟩
def ti59 : TI := ⟨.slice 117, 1, 24, (.slice none 0 0)⟩
def ti60 : TI := ⟨.struct [(0, 58), (1, 59)], 2, 48, (.agg #[(.slice none 0 0), (.slice none 0 0)])⟩
def ti61 : TI := ⟨.struct [(0, 58), (1, 59)], 2, 48, (.agg #[(.slice none 0 0), (.slice none 0 0)])⟩
def ti62 : TI := ⟨.struct [(0, 3), (1, 9), (2, 3), (3, 3), (4, 32)], 5, 64, (.agg #[(.int .i64 0), (.string ⟨#[]⟩), (.int .i64 0), (.int .i64 0), (.slice none 0 0)])⟩
def ti63 : TI := ⟨.struct [(0, 3), (1, 9), (2, 3), (3, 3), (4, 32)], 5, 64, (.agg #[(.int .i64 0), (.string ⟨#[]⟩), (.int .i64 0), (.int .i64 0), (.slice none 0 0)])⟩
def ti65 : TI := ⟨.other, 1, 8, .nilFunc⟩
def ti66 : TI := ⟨.other, 1, 8, .nilFunc⟩
def ti67 : TI := ⟨.other, 1, 8, .nilFunc⟩
def ti68 : TI := ⟨.other, 1, 8, .nilFunc⟩
def ti69 : TI := ⟨.struct [(0, 9), (1, 32)], 2, 40, (.agg #[(.string ⟨#[]⟩), (.slice none 0 0)])⟩
def ti70 : TI := ⟨.struct [(0, 9), (1, 32)], 2, 40, (.agg #[(.string ⟨#[]⟩), (.slice none 0 0)])⟩
def ti72 : TI := ⟨.other, 1, 8, .nilFunc⟩
def ti73 : TI := ⟨.other, 1, 8, .nilFunc⟩
def ti74 : TI := ⟨.other, 1, 8, .nilFunc⟩
def ti75 : TI := ⟨.other, 1, 8, .nilFunc⟩
def ti76 : TI := ⟨.other, 1, 8, .nilFunc⟩
def ti77 : TI := ⟨.other, 1, 8, .nilFunc⟩
def ti79 : TI := ⟨.other, 1, 8, .nilFunc⟩
def ti80 : TI := ⟨.other, 1, 8, .nilFunc⟩
def ti81 : TI := ⟨.other, 1, 8, .nilFunc⟩
def ti82 : TI := ⟨.other, 1, 8, .nilFunc⟩
def ti83 : TI := ⟨.slice 133, 1, 24, (.slice none 0 0)⟩
def ti84 : TI := ⟨.other, 1, 8, .nilFunc⟩
def ti85 : TI := ⟨.other, 1, 8, .nilFunc⟩
def ti86 : TI := ⟨.other, 1, 8, .nilFunc⟩
def ti87 : TI := ⟨.other, 1, 8, .nilFunc⟩
def ti88 : TI := ⟨.other, 1, 8, .nilFunc⟩
def ti89 : TI := ⟨.other, 1, 8, .nilFunc⟩
def ti90 : TI := ⟨.other, 1, 8, .nilFunc⟩
def ti92 : TI := ⟨.other, 1, 8, .nilFunc⟩
def ti93 : TI := ⟨.struct [(0, 3), (1, 3)], 2, 16, (.agg #[(.int .i64 0), (.int .i64 0)])⟩
def ti94 : TI := ⟨.struct [(0, 3), (1, 3)], 2, 16, (.agg #[(.int .i64 0), (.int .i64 0)])⟩
def ti95 : TI := ⟨.struct [(0, 3), (1, 3)], 2, 16, (.agg #[(.int .i64 0), (.int .i64 0)])⟩
def ti96 : TI := ⟨.struct [(0, 3), (1, 3)], 2, 16, (.agg #[(.int .i64 0), (.int .i64 0)])⟩
def ti97 : TI := ⟨.slice 96, 1, 24, (.slice none 0 0)⟩
def ti98 : TI := ⟨.other, 1, 8, .nilFunc⟩
def ti99 : TI := ⟨.other, 1, 8, .nilFunc⟩
def ti100 : TI := ⟨.other, 1, 8, .nilFunc⟩
def ti101 : TI := ⟨.other, 1, 8, .nilFunc⟩
def ti102 : TI := ⟨.map 9 4, 1, 8, (.map none)⟩
def ti103 : TI := ⟨.other, 1, 8, .nilFunc⟩
def ti104 : TI := ⟨.other, 1, 8, .nilFunc⟩
def ti106 : TI := ⟨.other, 1, 8, .nilFunc⟩
def ti107 : TI := ⟨.other, 1, 8, .nilFunc⟩
def ti109 : TI := ⟨.other, 1, 8, .nilFunc⟩
def ti110 : TI := ⟨.int .u64, 1, 8, (.int .u64 0)⟩
def ti111 : TI := ⟨.other, 1, 8, .nilFunc⟩
def ti112 : TI := ⟨.other, 1, 8, .nilFunc⟩
def ti114 : TI := ⟨.other, 1, 8, .nilFunc⟩
def ti115 : TI := ⟨.ptr 61, 1, 8, (.pointer none)⟩
def ti116 : TI := ⟨.struct [(0, 9), (1, 3), (2, 32)], 3, 48, (.agg #[(.string ⟨#[]⟩), (.int .i64 0), (.slice none 0 0)])⟩
def ti117 : TI := ⟨.struct [(0, 9), (1, 3), (2, 32)], 3, 48, (.agg #[(.string ⟨#[]⟩), (.int .i64 0), (.slice none 0 0)])⟩
def ti119 : TI := ⟨.other, 1, 8, .nilFunc⟩
def ti120 : TI := ⟨.other, 1, 8, .nilFunc⟩
def ti121 : TI := ⟨.other, 1, 8, .nilFunc⟩
def ti122 : TI := ⟨.other, 1, 8, .nilFunc⟩
def ti123 : TI := ⟨.other, 1, 8, .nilFunc⟩
def ti124 : TI := ⟨.other, 1, 8, .nilFunc⟩
def ti125 : TI := ⟨.ptr 127, 1, 8, (.pointer none)⟩
def ti126 : TI := ⟨.struct [(0, 61), (2, 9), (3, 32), (4, 3), (5, 3)], 6, 104, (.agg #[(.slice none 0 0), (.slice none 0 0), (.string ⟨#[]⟩), (.slice none 0 0), (.int .i64 0), (.int .i64 0)])⟩
def ti127 : TI := ⟨.struct [(0, 61), (2, 9), (3, 32), (4, 3), (5, 3)], 6, 104, (.agg #[(.slice none 0 0), (.slice none 0 0), (.string ⟨#[]⟩), (.slice none 0 0), (.int .i64 0), (.int .i64 0)])⟩
def ti129 : TI := ⟨.other, 1, 8, .nilFunc⟩
def ti130 : TI := ⟨.other, 1, 8, .nilFunc⟩
def ti131 : TI := ⟨.other, 1, 8, .nilFunc⟩
def ti132 : TI := ⟨.struct [(0, 3), (1, 32)], 2, 32, (.agg #[(.int .i64 0), (.slice none 0 0)])⟩
def ti133 : TI := ⟨.struct [(0, 3), (1, 32)], 2, 32, (.agg #[(.int .i64 0), (.slice none 0 0)])⟩
def ti134 : TI := ⟨.other, 1, 8, .nilFunc⟩
def ti135 : TI := ⟨.slice 4, 1, 24, (.slice none 0 0)⟩
def ti136 : TI := ⟨.other, 1, 8, .nilFunc⟩
def ti137 : TI := ⟨.other, 1, 8, .nilFunc⟩
def ti138 : TI := ⟨.other, 1, 8, .nilFunc⟩
def ti139 : TI := ⟨.other, 1, 8, .nilFunc⟩
def ti140 : TI := ⟨.slice 32, 1, 24, (.slice none 0 0)⟩
def ti141 : TI := ⟨.other, 1, 8, .nilFunc⟩
def ti142 : TI := ⟨.other, 1, 8, .nilFunc⟩
def ti143 : TI := ⟨.other, 1, 8, .nilFunc⟩
def ti144 : TI := ⟨.other, 1, 8, .nilFunc⟩
def ti145 : TI := ⟨.other, 1, 8, .nilFunc⟩
def ti146 : TI := ⟨.other, 1, 8, .nilFunc⟩
def ti147 : TI := ⟨.other, 1, 8, .nilFunc⟩
def ti148 : TI := ⟨.other, 1, 8, .nilFunc⟩
def ti149 : TI := ⟨.other, 1, 8, .nilFunc⟩
def ti150 : TI := ⟨.int .u64, 1, 8, (.int .u64 0)⟩
def ti151 : TI := ⟨.other, 1, 8, .nilFunc⟩
def ti152 : TI := ⟨.other, 1, 8, .nilFunc⟩
def ti153 : TI := ⟨.other, 1, 8, .nilFunc⟩
def ti154 : TI := ⟨.other, 1, 8, .nilFunc⟩
def ti155 : TI := ⟨.other, 1, 8, .nilFunc⟩
def ti159 : TI := ⟨.other, 1, 8, .nilFunc⟩
def ti160 : TI := ⟨.other, 1, 8, .nilFunc⟩
def ti161 : TI := ⟨.ptr 157, 1, 8, (.pointer none)⟩
def ti162 : TI := ⟨.other, 1, 8, .nilFunc⟩
def ti163 : TI := ⟨.other, 1, 8, .nilFunc⟩
def ti164 : TI := ⟨.other, 1, 8, .nilFunc⟩
def ti165 : TI := ⟨.ptr 117, 1, 8, (.pointer none)⟩
def ti166 : TI := ⟨.other, 1, 8, .nilFunc⟩
def ti167 : TI := ⟨.other, 1, 8, .nilFunc⟩
def ti168 : TI := ⟨.other, 1, 8, .nilFunc⟩
def ti169 : TI := ⟨.other, 1, 8, .nilFunc⟩
def ti171 : TI := ⟨.other, 1, 8, .nilFunc⟩
def ti172 : TI := ⟨.other, 1, 8, .nilFunc⟩
def ti173 : TI := ⟨.other, 1, 8, .nilFunc⟩
def ti174 : TI := ⟨.other, 1, 8, .nilFunc⟩
def ti175 : TI := ⟨.other, 1, 8, .nilFunc⟩
def ti176 : TI := ⟨.other, 1, 8, .nilFunc⟩
def ti177 : TI := ⟨.other, 1, 8, .nilFunc⟩
def ti179 : TI := ⟨.struct [(0, 5), (1, 5)], 2, 2, (.agg #[(.int .u8 0), (.int .u8 0)])⟩
def ti180 : TI := ⟨.struct [(0, 5), (1, 5)], 2, 2, (.agg #[(.int .u8 0), (.int .u8 0)])⟩
def ti182 : TI := ⟨.other, 1, 8, .nilFunc⟩
def ti183 : TI := ⟨.other, 1, 8, .nilFunc⟩
def ti184 : TI := ⟨.other, 1, 8, .nilFunc⟩
def ti185 : TI := ⟨.other, 1, 8, .nilFunc⟩
def ti186 : TI := ⟨.other, 1, 8, .nilFunc⟩
def ti187 : TI := ⟨.other, 1, 8, .nilFunc⟩
def ti193 : TI := ⟨.other, 1, 8, .nilFunc⟩
def ti194 : TI := ⟨.int .u32, 1, 4, (.int .u32 0)⟩
def ti197 : TI := ⟨.other, 1, 8, .nilFunc⟩
def ti198 : TI := ⟨.ptr 5, 1, 8, (.pointer none)⟩
def tl : List (Nat × TI) := [(1, ti1), (2, ti2), (3, ti3), (4, ti4), (5, ti5), (9, ti9), (12, ti12), (17, ti17), (20, ti20), (21, ti21), (22, ti22), (23, ti23), (24, ti24), (26, ti26), (27, ti27), (28, ti28), (29, ti29), (30, ti30), (31, ti31), (32, ti32), (33, ti33), (34, ti34), (36, ti36), (37, ti37), (38, ti38), (39, ti39), (40, ti40), (41, ti41), (43, ti43), (44, ti44), (45, ti45), (46, ti46), (47, ti47), (49, ti49), (50, ti50), (52, ti52), (53, ti53), (54, ti54), (55, ti55), (56, ti56), (57, ti57), (58, ti58), (59, ti59), (60, ti60), (61, ti61), (62, ti62), (63, ti63), (65, ti65), (66, ti66), (67, ti67), (68, ti68), (69, ti69), (70, ti70), (72, ti72), (73, ti73), (74, ti74), (75, ti75), (76, ti76), (77, ti77), (79, ti79), (80, ti80), (81, ti81), (82, ti82), (83, ti83), (84, ti84), (85, ti85), (86, ti86), (87, ti87), (88, ti88), (89, ti89), (90, ti90), (92, ti92), (93, ti93), (94, ti94), (95, ti95), (96, ti96), (97, ti97), (98, ti98), (99, ti99), (100, ti100), (101, ti101), (102, ti102), (103, ti103), (104, ti104), (106, ti106), (107, ti107), (109, ti109), (110, ti110), (111, ti111), (112, ti112), (114, ti114), (115, ti115), (116, ti116), (117, ti117), (119, ti119), (120, ti120), (121, ti121), (122, ti122), (123, ti123), (124, ti124), (125, ti125), (126, ti126), (127, ti127), (129, ti129), (130, ti130), (131, ti131), (132, ti132), (133, ti133), (134, ti134), (135, ti135), (136, ti136), (137, ti137), (138, ti138), (139, ti139), (140, ti140), (141, ti141), (142, ti142), (143, ti143), (144, ti144), (145, ti145), (146, ti146), (147, ti147), (148, ti148), (149, ti149), (150, ti150), (151, ti151), (152, ti152), (153, ti153), (154, ti154), (155, ti155), (159, ti159), (160, ti160), (161, ti161), (162, ti162), (163, ti163), (164, ti164), (165, ti165), (166, ti166), (167, ti167), (168, ti168), (169, ti169), (171, ti171), (172, ti172), (173, ti173), (174, ti174), (175, ti175), (176, ti176), (177, ti177), (179, ti179), (180, ti180), (182, ti182), (183, ti183), (184, ti184), (185, ti185), (186, ti186), (187, ti187), (193, ti193), (194, ti194), (197, ti197), (198, ti198)]
def T : Tab := tabGet tl
theorem tiok1 : TIOk Tryd.prog 1 ti1 := ⟨⟨_, Tryd.underlying1, trivial⟩, by kernel_rfl, rfl, rfl⟩
theorem tiok2 : TIOk Tryd.prog 2 ti2 := ⟨Tryd.underlying2, by kernel_rfl, rfl, rfl⟩
theorem tiok3 : TIOk Tryd.prog 3 ti3 := ⟨Tryd.underlying3, by kernel_rfl, rfl, rfl⟩
theorem tiok4 : TIOk Tryd.prog 4 ti4 := ⟨Tryd.underlying4, by kernel_rfl, rfl, rfl⟩
theorem tiok5 : TIOk Tryd.prog 5 ti5 := ⟨Tryd.underlying5, by kernel_rfl, rfl, rfl⟩
theorem tiok9 : TIOk Tryd.prog 9 ti9 := ⟨Tryd.underlying9, by kernel_rfl, rfl, rfl⟩
theorem tiok12 : TIOk Tryd.prog 12 ti12 := ⟨Tryd.underlying12, by kernel_rfl, rfl, rfl⟩
theorem tiok17 : TIOk Tryd.prog 17 ti17 := ⟨Tryd.underlying17, by kernel_rfl, rfl, rfl⟩
theorem tiok20 : TIOk Tryd.prog 20 ti20 := ⟨⟨_, Tryd.underlying20, trivial⟩, by kernel_rfl, rfl, rfl⟩
theorem tiok21 : TIOk Tryd.prog 21 ti21 := ⟨Tryd.underlying21, by kernel_rfl, rfl, rfl⟩
theorem tiok22 : TIOk Tryd.prog 22 ti22 := ⟨Tryd.underlying22, by kernel_rfl, rfl, rfl⟩
theorem tiok23 : TIOk Tryd.prog 23 ti23 := ⟨Tryd.underlying23, by kernel_rfl, rfl, rfl⟩
theorem tiok24 : TIOk Tryd.prog 24 ti24 := ⟨Tryd.underlying24, by kernel_rfl, rfl, rfl⟩
theorem tiok26 : TIOk Tryd.prog 26 ti26 := ⟨⟨_, Tryd.underlying26, trivial⟩, by kernel_rfl, rfl, rfl⟩
theorem tiok27 : TIOk Tryd.prog 27 ti27 := ⟨⟨_, Tryd.underlying27, trivial⟩, by kernel_rfl, rfl, rfl⟩
theorem tiok28 : TIOk Tryd.prog 28 ti28 := ⟨Tryd.underlying28, by kernel_rfl, rfl, rfl⟩
theorem tiok29 : TIOk Tryd.prog 29 ti29 := ⟨⟨_, Tryd.underlying29, rfl⟩, by kernel_rfl, rfl, rfl⟩
theorem tiok30 : TIOk Tryd.prog 30 ti30 := ⟨⟨_, Tryd.underlying30, rfl⟩, by kernel_rfl, rfl, rfl⟩
theorem tiok31 : TIOk Tryd.prog 31 ti31 := ⟨⟨_, Tryd.underlying31, trivial⟩, by kernel_rfl, rfl, rfl⟩
theorem tiok32 : TIOk Tryd.prog 32 ti32 := ⟨Tryd.underlying32, by kernel_rfl, rfl, rfl⟩
theorem tiok33 : TIOk Tryd.prog 33 ti33 := ⟨⟨_, Tryd.underlying33, trivial⟩, by kernel_rfl, rfl, rfl⟩
theorem tiok34 : TIOk Tryd.prog 34 ti34 := ⟨Tryd.underlying34, by kernel_rfl, rfl, rfl⟩
theorem tiok36 : TIOk Tryd.prog 36 ti36 := ⟨⟨_, Tryd.underlying36, trivial⟩, by kernel_rfl, rfl, rfl⟩
theorem tiok37 : TIOk Tryd.prog 37 ti37 := ⟨⟨_, Tryd.underlying37, trivial⟩, by kernel_rfl, rfl, rfl⟩
theorem tiok38 : TIOk Tryd.prog 38 ti38 := ⟨⟨_, Tryd.underlying38, trivial⟩, by kernel_rfl, rfl, rfl⟩
theorem tiok39 : TIOk Tryd.prog 39 ti39 := ⟨⟨_, Tryd.underlying39, trivial⟩, by kernel_rfl, rfl, rfl⟩
theorem tiok40 : TIOk Tryd.prog 40 ti40 := ⟨⟨_, Tryd.underlying40, trivial⟩, by kernel_rfl, rfl, rfl⟩
theorem tiok41 : TIOk Tryd.prog 41 ti41 := ⟨⟨_, Tryd.underlying41, trivial⟩, by kernel_rfl, rfl, rfl⟩
theorem tiok43 : TIOk Tryd.prog 43 ti43 := ⟨⟨_, Tryd.underlying43, trivial⟩, by kernel_rfl, rfl, rfl⟩
theorem tiok44 : TIOk Tryd.prog 44 ti44 := ⟨⟨_, Tryd.underlying44, trivial⟩, by kernel_rfl, rfl, rfl⟩
theorem tiok45 : TIOk Tryd.prog 45 ti45 := ⟨⟨_, Tryd.underlying45, trivial⟩, by kernel_rfl, rfl, rfl⟩
theorem tiok46 : TIOk Tryd.prog 46 ti46 := ⟨⟨_, Tryd.underlying46, trivial⟩, by kernel_rfl, rfl, rfl⟩
theorem tiok47 : TIOk Tryd.prog 47 ti47 := ⟨⟨_, Tryd.underlying47, trivial⟩, by kernel_rfl, rfl, rfl⟩
theorem tiok49 : TIOk Tryd.prog 49 ti49 := ⟨⟨_, Tryd.underlying49, trivial⟩, by kernel_rfl, rfl, rfl⟩
theorem tiok50 : TIOk Tryd.prog 50 ti50 := ⟨⟨_, Tryd.underlying50, trivial⟩, by kernel_rfl, rfl, rfl⟩
theorem tiok52 : TIOk Tryd.prog 52 ti52 := ⟨⟨_, Tryd.underlying52, trivial⟩, by kernel_rfl, rfl, rfl⟩
theorem tiok53 : TIOk Tryd.prog 53 ti53 := ⟨⟨_, Tryd.underlying53, trivial⟩, by kernel_rfl, rfl, rfl⟩
theorem tiok54 : TIOk Tryd.prog 54 ti54 := ⟨Tryd.underlying54, by kernel_rfl, rfl, rfl⟩
theorem tiok55 : TIOk Tryd.prog 55 ti55 := ⟨⟨_, Tryd.underlying55, trivial⟩, by kernel_rfl, rfl, rfl⟩
theorem tiok56 : TIOk Tryd.prog 56 ti56 := ⟨⟨_, Tryd.underlying56, trivial⟩, by kernel_rfl, rfl, rfl⟩
theorem tiok57 : TIOk Tryd.prog 57 ti57 := ⟨⟨_, Tryd.underlying57, trivial⟩, by kernel_rfl, rfl, rfl⟩
theorem tiok58 : TIOk Tryd.prog 58 ti58 := ⟨Tryd.underlying58, by kernel_rfl, rfl, rfl⟩
theorem tiok59 : TIOk Tryd.prog 59 ti59 := ⟨Tryd.underlying59, by kernel_rfl, rfl, rfl⟩
theorem tiok60 : TIOk Tryd.prog 60 ti60 := ⟨⟨_, Tryd.underlying60, rfl⟩, by kernel_rfl, rfl, rfl⟩
theorem tiok61 : TIOk Tryd.prog 61 ti61 := ⟨⟨_, Tryd.underlying61, rfl⟩, by kernel_rfl, rfl, rfl⟩
theorem tiok62 : TIOk Tryd.prog 62 ti62 := ⟨⟨_, Tryd.underlying62, rfl⟩, by kernel_rfl, rfl, rfl⟩
theorem tiok63 : TIOk Tryd.prog 63 ti63 := ⟨⟨_, Tryd.underlying63, rfl⟩, by kernel_rfl, rfl, rfl⟩
theorem tiok65 : TIOk Tryd.prog 65 ti65 := ⟨⟨_, Tryd.underlying65, trivial⟩, by kernel_rfl, rfl, rfl⟩
theorem tiok66 : TIOk Tryd.prog 66 ti66 := ⟨⟨_, Tryd.underlying66, trivial⟩, by kernel_rfl, rfl, rfl⟩
theorem tiok67 : TIOk Tryd.prog 67 ti67 := ⟨⟨_, Tryd.underlying67, trivial⟩, by kernel_rfl, rfl, rfl⟩
theorem tiok68 : TIOk Tryd.prog 68 ti68 := ⟨⟨_, Tryd.underlying68, trivial⟩, by kernel_rfl, rfl, rfl⟩
theorem tiok69 : TIOk Tryd.prog 69 ti69 := ⟨⟨_, Tryd.underlying69, rfl⟩, by kernel_rfl, rfl, rfl⟩
theorem tiok70 : TIOk Tryd.prog 70 ti70 := ⟨⟨_, Tryd.underlying70, rfl⟩, by kernel_rfl, rfl, rfl⟩
theorem tiok72 : TIOk Tryd.prog 72 ti72 := ⟨⟨_, Tryd.underlying72, trivial⟩, by kernel_rfl, rfl, rfl⟩
theorem tiok73 : TIOk Tryd.prog 73 ti73 := ⟨⟨_, Tryd.underlying73, trivial⟩, by kernel_rfl, rfl, rfl⟩
theorem tiok74 : TIOk Tryd.prog 74 ti74 := ⟨⟨_, Tryd.underlying74, trivial⟩, by kernel_rfl, rfl, rfl⟩
theorem tiok75 : TIOk Tryd.prog 75 ti75 := ⟨⟨_, Tryd.underlying75, trivial⟩, by kernel_rfl, rfl, rfl⟩
theorem tiok76 : TIOk Tryd.prog 76 ti76 := ⟨⟨_, Tryd.underlying76, trivial⟩, by kernel_rfl, rfl, rfl⟩
theorem tiok77 : TIOk Tryd.prog 77 ti77 := ⟨⟨_, Tryd.underlying77, trivial⟩, by kernel_rfl, rfl, rfl⟩
theorem tiok79 : TIOk Tryd.prog 79 ti79 := ⟨⟨_, Tryd.underlying79, trivial⟩, by kernel_rfl, rfl, rfl⟩
theorem tiok80 : TIOk Tryd.prog 80 ti80 := ⟨⟨_, Tryd.underlying80, trivial⟩, by kernel_rfl, rfl, rfl⟩
theorem tiok81 : TIOk Tryd.prog 81 ti81 := ⟨⟨_, Tryd.underlying81, trivial⟩, by kernel_rfl, rfl, rfl⟩
theorem tiok82 : TIOk Tryd.prog 82 ti82 := ⟨⟨_, Tryd.underlying82, trivial⟩, by kernel_rfl, rfl, rfl⟩
theorem tiok83 : TIOk Tryd.prog 83 ti83 := ⟨Tryd.underlying83, by kernel_rfl, rfl, rfl⟩
theorem tiok84 : TIOk Tryd.prog 84 ti84 := ⟨⟨_, Tryd.underlying84, trivial⟩, by kernel_rfl, rfl, rfl⟩
theorem tiok85 : TIOk Tryd.prog 85 ti85 := ⟨⟨_, Tryd.underlying85, trivial⟩, by kernel_rfl, rfl, rfl⟩
theorem tiok86 : TIOk Tryd.prog 86 ti86 := ⟨⟨_, Tryd.underlying86, trivial⟩, by kernel_rfl, rfl, rfl⟩
theorem tiok87 : TIOk Tryd.prog 87 ti87 := ⟨⟨_, Tryd.underlying87, trivial⟩, by kernel_rfl, rfl, rfl⟩
theorem tiok88 : TIOk Tryd.prog 88 ti88 := ⟨⟨_, Tryd.underlying88, trivial⟩, by kernel_rfl, rfl, rfl⟩
theorem tiok89 : TIOk Tryd.prog 89 ti89 := ⟨⟨_, Tryd.underlying89, trivial⟩, by kernel_rfl, rfl, rfl⟩
theorem tiok90 : TIOk Tryd.prog 90 ti90 := ⟨⟨_, Tryd.underlying90, trivial⟩, by kernel_rfl, rfl, rfl⟩
theorem tiok92 : TIOk Tryd.prog 92 ti92 := ⟨⟨_, Tryd.underlying92, trivial⟩, by kernel_rfl, rfl, rfl⟩
theorem tiok93 : TIOk Tryd.prog 93 ti93 := ⟨⟨_, Tryd.underlying93, rfl⟩, by kernel_rfl, rfl, rfl⟩
theorem tiok94 : TIOk Tryd.prog 94 ti94 := ⟨⟨_, Tryd.underlying94, rfl⟩, by kernel_rfl, rfl, rfl⟩
theorem tiok95 : TIOk Tryd.prog 95 ti95 := ⟨⟨_, Tryd.underlying95, rfl⟩, by kernel_rfl, rfl, rfl⟩
theorem tiok96 : TIOk Tryd.prog 96 ti96 := ⟨⟨_, Tryd.underlying96, rfl⟩, by kernel_rfl, rfl, rfl⟩
theorem tiok97 : TIOk Tryd.prog 97 ti97 := ⟨Tryd.underlying97, by kernel_rfl, rfl, rfl⟩
theorem tiok98 : TIOk Tryd.prog 98 ti98 := ⟨⟨_, Tryd.underlying98, trivial⟩, by kernel_rfl, rfl, rfl⟩
theorem tiok99 : TIOk Tryd.prog 99 ti99 := ⟨⟨_, Tryd.underlying99, trivial⟩, by kernel_rfl, rfl, rfl⟩
theorem tiok100 : TIOk Tryd.prog 100 ti100 := ⟨⟨_, Tryd.underlying100, trivial⟩, by kernel_rfl, rfl, rfl⟩
theorem tiok101 : TIOk Tryd.prog 101 ti101 := ⟨⟨_, Tryd.underlying101, trivial⟩, by kernel_rfl, rfl, rfl⟩
theorem tiok102 : TIOk Tryd.prog 102 ti102 := ⟨Tryd.underlying102, by kernel_rfl, rfl, rfl⟩
theorem tiok103 : TIOk Tryd.prog 103 ti103 := ⟨⟨_, Tryd.underlying103, trivial⟩, by kernel_rfl, rfl, rfl⟩
theorem tiok104 : TIOk Tryd.prog 104 ti104 := ⟨⟨_, Tryd.underlying104, trivial⟩, by kernel_rfl, rfl, rfl⟩
theorem tiok106 : TIOk Tryd.prog 106 ti106 := ⟨⟨_, Tryd.underlying106, trivial⟩, by kernel_rfl, rfl, rfl⟩
theorem tiok107 : TIOk Tryd.prog 107 ti107 := ⟨⟨_, Tryd.underlying107, trivial⟩, by kernel_rfl, rfl, rfl⟩
theorem tiok109 : TIOk Tryd.prog 109 ti109 := ⟨⟨_, Tryd.underlying109, trivial⟩, by kernel_rfl, rfl, rfl⟩
theorem tiok110 : TIOk Tryd.prog 110 ti110 := ⟨Tryd.underlying110, by kernel_rfl, rfl, rfl⟩
theorem tiok111 : TIOk Tryd.prog 111 ti111 := ⟨⟨_, Tryd.underlying111, trivial⟩, by kernel_rfl, rfl, rfl⟩
theorem tiok112 : TIOk Tryd.prog 112 ti112 := ⟨⟨_, Tryd.underlying112, trivial⟩, by kernel_rfl, rfl, rfl⟩
theorem tiok114 : TIOk Tryd.prog 114 ti114 := ⟨⟨_, Tryd.underlying114, trivial⟩, by kernel_rfl, rfl, rfl⟩
theorem tiok115 : TIOk Tryd.prog 115 ti115 := ⟨Tryd.underlying115, by kernel_rfl, rfl, rfl⟩
theorem tiok116 : TIOk Tryd.prog 116 ti116 := ⟨⟨_, Tryd.underlying116, rfl⟩, by kernel_rfl, rfl, rfl⟩
theorem tiok117 : TIOk Tryd.prog 117 ti117 := ⟨⟨_, Tryd.underlying117, rfl⟩, by kernel_rfl, rfl, rfl⟩
theorem tiok119 : TIOk Tryd.prog 119 ti119 := ⟨⟨_, Tryd.underlying119, trivial⟩, by kernel_rfl, rfl, rfl⟩
theorem tiok120 : TIOk Tryd.prog 120 ti120 := ⟨⟨_, Tryd.underlying120, trivial⟩, by kernel_rfl, rfl, rfl⟩
theorem tiok121 : TIOk Tryd.prog 121 ti121 := ⟨⟨_, Tryd.underlying121, trivial⟩, by kernel_rfl, rfl, rfl⟩
theorem tiok122 : TIOk Tryd.prog 122 ti122 := ⟨⟨_, Tryd.underlying122, trivial⟩, by kernel_rfl, rfl, rfl⟩
theorem tiok123 : TIOk Tryd.prog 123 ti123 := ⟨⟨_, Tryd.underlying123, trivial⟩, by kernel_rfl, rfl, rfl⟩
theorem tiok124 : TIOk Tryd.prog 124 ti124 := ⟨⟨_, Tryd.underlying124, trivial⟩, by kernel_rfl, rfl, rfl⟩
theorem tiok125 : TIOk Tryd.prog 125 ti125 := ⟨Tryd.underlying125, by kernel_rfl, rfl, rfl⟩
theorem tiok126 : TIOk Tryd.prog 126 ti126 := ⟨⟨_, Tryd.underlying126, rfl⟩, by kernel_rfl, rfl, rfl⟩
theorem tiok127 : TIOk Tryd.prog 127 ti127 := ⟨⟨_, Tryd.underlying127, rfl⟩, by kernel_rfl, rfl, rfl⟩
theorem tiok129 : TIOk Tryd.prog 129 ti129 := ⟨⟨_, Tryd.underlying129, trivial⟩, by kernel_rfl, rfl, rfl⟩
theorem tiok130 : TIOk Tryd.prog 130 ti130 := ⟨⟨_, Tryd.underlying130, trivial⟩, by kernel_rfl, rfl, rfl⟩
theorem tiok131 : TIOk Tryd.prog 131 ti131 := ⟨⟨_, Tryd.underlying131, trivial⟩, by kernel_rfl, rfl, rfl⟩
theorem tiok132 : TIOk Tryd.prog 132 ti132 := ⟨⟨_, Tryd.underlying132, rfl⟩, by kernel_rfl, rfl, rfl⟩
theorem tiok133 : TIOk Tryd.prog 133 ti133 := ⟨⟨_, Tryd.underlying133, rfl⟩, by kernel_rfl, rfl, rfl⟩
theorem tiok134 : TIOk Tryd.prog 134 ti134 := ⟨⟨_, Tryd.underlying134, trivial⟩, by kernel_rfl, rfl, rfl⟩
theorem tiok135 : TIOk Tryd.prog 135 ti135 := ⟨Tryd.underlying135, by kernel_rfl, rfl, rfl⟩
theorem tiok136 : TIOk Tryd.prog 136 ti136 := ⟨⟨_, Tryd.underlying136, trivial⟩, by kernel_rfl, rfl, rfl⟩
theorem tiok137 : TIOk Tryd.prog 137 ti137 := ⟨⟨_, Tryd.underlying137, trivial⟩, by kernel_rfl, rfl, rfl⟩
theorem tiok138 : TIOk Tryd.prog 138 ti138 := ⟨⟨_, Tryd.underlying138, trivial⟩, by kernel_rfl, rfl, rfl⟩
theorem tiok139 : TIOk Tryd.prog 139 ti139 := ⟨⟨_, Tryd.underlying139, trivial⟩, by kernel_rfl, rfl, rfl⟩
theorem tiok140 : TIOk Tryd.prog 140 ti140 := ⟨Tryd.underlying140, by kernel_rfl, rfl, rfl⟩
theorem tiok141 : TIOk Tryd.prog 141 ti141 := ⟨⟨_, Tryd.underlying141, trivial⟩, by kernel_rfl, rfl, rfl⟩
theorem tiok142 : TIOk Tryd.prog 142 ti142 := ⟨⟨_, Tryd.underlying142, trivial⟩, by kernel_rfl, rfl, rfl⟩
theorem tiok143 : TIOk Tryd.prog 143 ti143 := ⟨⟨_, Tryd.underlying143, trivial⟩, by kernel_rfl, rfl, rfl⟩
theorem tiok144 : TIOk Tryd.prog 144 ti144 := ⟨⟨_, Tryd.underlying144, trivial⟩, by kernel_rfl, rfl, rfl⟩
theorem tiok145 : TIOk Tryd.prog 145 ti145 := ⟨⟨_, Tryd.underlying145, trivial⟩, by kernel_rfl, rfl, rfl⟩
theorem tiok146 : TIOk Tryd.prog 146 ti146 := ⟨⟨_, Tryd.underlying146, trivial⟩, by kernel_rfl, rfl, rfl⟩
theorem tiok147 : TIOk Tryd.prog 147 ti147 := ⟨⟨_, Tryd.underlying147, trivial⟩, by kernel_rfl, rfl, rfl⟩
theorem tiok148 : TIOk Tryd.prog 148 ti148 := ⟨⟨_, Tryd.underlying148, trivial⟩, by kernel_rfl, rfl, rfl⟩
theorem tiok149 : TIOk Tryd.prog 149 ti149 := ⟨⟨_, Tryd.underlying149, trivial⟩, by kernel_rfl, rfl, rfl⟩
theorem tiok150 : TIOk Tryd.prog 150 ti150 := ⟨Tryd.underlying150, by kernel_rfl, rfl, rfl⟩
theorem tiok151 : TIOk Tryd.prog 151 ti151 := ⟨⟨_, Tryd.underlying151, trivial⟩, by kernel_rfl, rfl, rfl⟩
theorem tiok152 : TIOk Tryd.prog 152 ti152 := ⟨⟨_, Tryd.underlying152, trivial⟩, by kernel_rfl, rfl, rfl⟩
theorem tiok153 : TIOk Tryd.prog 153 ti153 := ⟨⟨_, Tryd.underlying153, trivial⟩, by kernel_rfl, rfl, rfl⟩
theorem tiok154 : TIOk Tryd.prog 154 ti154 := ⟨⟨_, Tryd.underlying154, trivial⟩, by kernel_rfl, rfl, rfl⟩
theorem tiok155 : TIOk Tryd.prog 155 ti155 := ⟨⟨_, Tryd.underlying155, trivial⟩, by kernel_rfl, rfl, rfl⟩
theorem tiok159 : TIOk Tryd.prog 159 ti159 := ⟨⟨_, Tryd.underlying159, trivial⟩, by kernel_rfl, rfl, rfl⟩
theorem tiok160 : TIOk Tryd.prog 160 ti160 := ⟨⟨_, Tryd.underlying160, trivial⟩, by kernel_rfl, rfl, rfl⟩
theorem tiok161 : TIOk Tryd.prog 161 ti161 := ⟨Tryd.underlying161, by kernel_rfl, rfl, rfl⟩
theorem tiok162 : TIOk Tryd.prog 162 ti162 := ⟨⟨_, Tryd.underlying162, trivial⟩, by kernel_rfl, rfl, rfl⟩
theorem tiok163 : TIOk Tryd.prog 163 ti163 := ⟨⟨_, Tryd.underlying163, trivial⟩, by kernel_rfl, rfl, rfl⟩
theorem tiok164 : TIOk Tryd.prog 164 ti164 := ⟨⟨_, Tryd.underlying164, trivial⟩, by kernel_rfl, rfl, rfl⟩
theorem tiok165 : TIOk Tryd.prog 165 ti165 := ⟨Tryd.underlying165, by kernel_rfl, rfl, rfl⟩
theorem tiok166 : TIOk Tryd.prog 166 ti166 := ⟨⟨_, Tryd.underlying166, trivial⟩, by kernel_rfl, rfl, rfl⟩
theorem tiok167 : TIOk Tryd.prog 167 ti167 := ⟨⟨_, Tryd.underlying167, trivial⟩, by kernel_rfl, rfl, rfl⟩
theorem tiok168 : TIOk Tryd.prog 168 ti168 := ⟨⟨_, Tryd.underlying168, trivial⟩, by kernel_rfl, rfl, rfl⟩
theorem tiok169 : TIOk Tryd.prog 169 ti169 := ⟨⟨_, Tryd.underlying169, trivial⟩, by kernel_rfl, rfl, rfl⟩
theorem tiok171 : TIOk Tryd.prog 171 ti171 := ⟨⟨_, Tryd.underlying171, trivial⟩, by kernel_rfl, rfl, rfl⟩
theorem tiok172 : TIOk Tryd.prog 172 ti172 := ⟨⟨_, Tryd.underlying172, trivial⟩, by kernel_rfl, rfl, rfl⟩
theorem tiok173 : TIOk Tryd.prog 173 ti173 := ⟨⟨_, Tryd.underlying173, trivial⟩, by kernel_rfl, rfl, rfl⟩
theorem tiok174 : TIOk Tryd.prog 174 ti174 := ⟨⟨_, Tryd.underlying174, trivial⟩, by kernel_rfl, rfl, rfl⟩
theorem tiok175 : TIOk Tryd.prog 175 ti175 := ⟨⟨_, Tryd.underlying175, trivial⟩, by kernel_rfl, rfl, rfl⟩
theorem tiok176 : TIOk Tryd.prog 176 ti176 := ⟨⟨_, Tryd.underlying176, trivial⟩, by kernel_rfl, rfl, rfl⟩
theorem tiok177 : TIOk Tryd.prog 177 ti177 := ⟨⟨_, Tryd.underlying177, trivial⟩, by kernel_rfl, rfl, rfl⟩
theorem tiok179 : TIOk Tryd.prog 179 ti179 := ⟨⟨_, Tryd.underlying179, rfl⟩, by kernel_rfl, rfl, rfl⟩
theorem tiok180 : TIOk Tryd.prog 180 ti180 := ⟨⟨_, Tryd.underlying180, rfl⟩, by kernel_rfl, rfl, rfl⟩
theorem tiok182 : TIOk Tryd.prog 182 ti182 := ⟨⟨_, Tryd.underlying182, trivial⟩, by kernel_rfl, rfl, rfl⟩
theorem tiok183 : TIOk Tryd.prog 183 ti183 := ⟨⟨_, Tryd.underlying183, trivial⟩, by kernel_rfl, rfl, rfl⟩
theorem tiok184 : TIOk Tryd.prog 184 ti184 := ⟨⟨_, Tryd.underlying184, trivial⟩, by kernel_rfl, rfl, rfl⟩
theorem tiok185 : TIOk Tryd.prog 185 ti185 := ⟨⟨_, Tryd.underlying185, trivial⟩, by kernel_rfl, rfl, rfl⟩
theorem tiok186 : TIOk Tryd.prog 186 ti186 := ⟨⟨_, Tryd.underlying186, trivial⟩, by kernel_rfl, rfl, rfl⟩
theorem tiok187 : TIOk Tryd.prog 187 ti187 := ⟨⟨_, Tryd.underlying187, trivial⟩, by kernel_rfl, rfl, rfl⟩
theorem tiok193 : TIOk Tryd.prog 193 ti193 := ⟨⟨_, Tryd.underlying193, trivial⟩, by kernel_rfl, rfl, rfl⟩
theorem tiok194 : TIOk Tryd.prog 194 ti194 := ⟨Tryd.underlying194, by kernel_rfl, rfl, rfl⟩
theorem tiok197 : TIOk Tryd.prog 197 ti197 := ⟨⟨_, Tryd.underlying197, trivial⟩, by kernel_rfl, rfl, rfl⟩
theorem tiok198 : TIOk Tryd.prog 198 ti198 := ⟨Tryd.underlying198, by kernel_rfl, rfl, rfl⟩
theorem tabOK : TabOK Tryd.prog T := by
  refine tabOK_of ?_
  simp only [tl, List.forall_mem_cons]
  exact ⟨tiok1, tiok2, tiok3, tiok4, tiok5, tiok9, tiok12, tiok17, tiok20, tiok21, tiok22, tiok23, tiok24, tiok26, tiok27, tiok28, tiok29, tiok30, tiok31, tiok32, tiok33, tiok34, tiok36, tiok37, tiok38, tiok39, tiok40, tiok41, tiok43, tiok44, tiok45, tiok46, tiok47, tiok49, tiok50, tiok52, tiok53, tiok54, tiok55, tiok56, tiok57, tiok58, tiok59, tiok60, tiok61, tiok62, tiok63, tiok65, tiok66, tiok67, tiok68, tiok69, tiok70, tiok72, tiok73, tiok74, tiok75, tiok76, tiok77, tiok79, tiok80, tiok81, tiok82, tiok83, tiok84, tiok85, tiok86, tiok87, tiok88, tiok89, tiok90, tiok92, tiok93, tiok94, tiok95, tiok96, tiok97, tiok98, tiok99, tiok100, tiok101, tiok102, tiok103, tiok104, tiok106, tiok107, tiok109, tiok110, tiok111, tiok112, tiok114, tiok115, tiok116, tiok117, tiok119, tiok120, tiok121, tiok122, tiok123, tiok124, tiok125, tiok126, tiok127, tiok129, tiok130, tiok131, tiok132, tiok133, tiok134, tiok135, tiok136, tiok137, tiok138, tiok139, tiok140, tiok141, tiok142, tiok143, tiok144, tiok145, tiok146, tiok147, tiok148, tiok149, tiok150, tiok151, tiok152, tiok153, tiok154, tiok155, tiok159, tiok160, tiok161, tiok162, tiok163, tiok164, tiok165, tiok166, tiok167, tiok168, tiok169, tiok171, tiok172, tiok173, tiok174, tiok175, tiok176, tiok177, tiok179, tiok180, tiok182, tiok183, tiok184, tiok185, tiok186, tiok187, tiok193, tiok194, tiok197, tiok198, fun _ h => by cases h⟩
def TYt : Nat → Option Ty := lkT [(2, (.int .i64)), (3, (.int .i64)), (4, .bool), (5, .byte), (9, .str), (12, (.int .u64)), (21, (.int .i32)), (22, (.slice (.pair .str (.int .i64)))), (23, (.slice (.slice .str))), (24, (.int .i64)), (28, (.slice .str)), (29, (.pair .str (.int .i64))), (30, (.pair .str (.int .i64))), (32, (.slice .byte)), (34, (.slice (.pair (.int .i64) (.pair .str (.pair (.int .i64) (.pair (.int .i64) (.slice .byte))))))), (54, (.slice (.int .i64))), (58, (.slice (.pair .str (.slice .byte)))), (59, (.slice (.pair .str (.pair (.int .i64) (.slice .byte))))), (60, (.pair (.slice (.pair .str (.slice .byte))) (.slice (.pair .str (.pair (.int .i64) (.slice .byte)))))), (61, (.pair (.slice (.pair .str (.slice .byte))) (.slice (.pair .str (.pair (.int .i64) (.slice .byte)))))), (62, (.pair (.int .i64) (.pair .str (.pair (.int .i64) (.pair (.int .i64) (.slice .byte)))))), (63, (.pair (.int .i64) (.pair .str (.pair (.int .i64) (.pair (.int .i64) (.slice .byte)))))), (69, (.pair .str (.slice .byte))), (70, (.pair .str (.slice .byte))), (83, (.slice (.pair (.int .i64) (.slice .byte)))), (93, (.pair (.int .i64) (.int .i64))), (94, (.pair (.int .i64) (.int .i64))), (95, (.pair (.int .i64) (.int .i64))), (96, (.pair (.int .i64) (.int .i64))), (97, (.slice (.pair (.int .i64) (.int .i64)))), (110, (.int .u64)), (115, (.ptr (.pair (.slice (.pair .str (.slice .byte))) (.slice (.pair .str (.pair (.int .i64) (.slice .byte))))))), (116, (.pair .str (.pair (.int .i64) (.slice .byte)))), (117, (.pair .str (.pair (.int .i64) (.slice .byte)))), (125, (.ptr (.pair (.pair (.slice (.pair .str (.slice .byte))) (.slice (.pair .str (.pair (.int .i64) (.slice .byte))))) (.pair .str (.pair (.slice .byte) (.pair (.int .i64) (.int .i64))))))), (126, (.pair (.pair (.slice (.pair .str (.slice .byte))) (.slice (.pair .str (.pair (.int .i64) (.slice .byte))))) (.pair .str (.pair (.slice .byte) (.pair (.int .i64) (.int .i64)))))), (127, (.pair (.pair (.slice (.pair .str (.slice .byte))) (.slice (.pair .str (.pair (.int .i64) (.slice .byte))))) (.pair .str (.pair (.slice .byte) (.pair (.int .i64) (.int .i64)))))), (132, (.pair (.int .i64) (.slice .byte))), (133, (.pair (.int .i64) (.slice .byte))), (135, (.slice .bool)), (140, (.slice (.slice .byte))), (150, (.int .u64)), (165, (.ptr (.pair .str (.pair (.int .i64) (.slice .byte))))), (179, (.pair .byte .byte)), (180, (.pair .byte .byte)), (194, (.int .u32)), (198, (.ptr .byte))]
theorem mixed : Tryd.prog.follows .mixedOrders = true := by kernel_rfl
def bodyOf (f : Func) : Code := match f.body with | some c => c | none => .skip
end Go.Proofs.YtpeiomhgaembaaaDoor
set_option linter.unusedVariables false
set_option maxRecDepth 100000
namespace Go.Proofs
open Go.Shelf
shelf_lay Lays.n160 Nm 160 at Tryd as Tryd.lays160
end Go.Proofs
namespace Go.Proofs.YtpeiomhgaembaaaDoor
open Go Go.RowKit Go.Shelf Go.Lib Go.Proofs.YtpeiomhgaembaaaDoor.Eng
/-- strings.Trim, at bytes below 128. -/
noncomputable def strings_Trim.f (s cs : ByteArray) : Option ByteArray := ck (s.size ≤ 9223372036854775807 ∧ cs.size < 4294967281 ∧ cs.data.toList.all (fun b => decide (b.toNat < 128)) = true) (some ⟨(Lib.trimS s.data.toList cs.data.toList).toArray⟩)
noncomputable def strings_Trim.fn : TFn := ⟨[.str, .str], [.str], fun x => strings_Trim.f x.1 x.2⟩
theorem strings_Trim.ok : FnOK Tryd.prog 92 strings_Trim.fn := by
  refine ⟨enters_of (c := bodyOf Tryd.f92) Tryd.func92 (by kernel_rfl) (by kernel_rfl), ?_⟩
  rintro ⟨s, cs⟩ r hr
  obtain ⟨⟨h1, h2, h3⟩, h4⟩ := ck_some (show ck _ _ = some r from hr)
  cases h4
  have h := fun w => Any.strings_Trim_laid Tryd.lays160 (by kernel_rfl) s cs w h1 h2 (ascii_of_all h3)
  exact FPure.of_calls (P := Tryd.prog) (f := 92) (args := [.string s, .string cs]) h
end Go.Proofs.YtpeiomhgaembaaaDoor
